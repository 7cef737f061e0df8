/- Own work: a part of the symbolic executor and of the walks of the functions that the claim reaches. -/
import Derived.Test.YtbdacbcpniegiaaDoorBase2
import Derived.RangeFuncNested
import Derived.RangeFuncBound
import Derived.RangeFuncCalls
import Derived.RangeFuncLeaves
import Derived.RangeFuncBox
import Derived.Shelf.Abstract
import Derived.WalkKit
import Derived.OwnWalkIn
import Derived.TacticsInMore
import Derived.LoopNIn
import Derived.LoopIn
import Derived.Maps.AppendAt
import Derived.Shelf.Pu.Clone
import Derived.Shelf.Strings.SlTrimAscii
set_option maxRecDepth 100000
set_option maxHeartbeats 64000000
set_option linter.unusedSimpArgs false
set_option linter.unusedVariables false
set_option linter.unusedVariables false
namespace NW
abbrev Bytes := List UInt8
def varint (n : Nat) : Bytes :=
  if h : n < 128 then [UInt8.ofNat n] else UInt8.ofNat (n % 128 + 128) :: varint (n / 128)
termination_by n
decreasing_by omega
def readAt : Nat → Bytes → Option (Nat × Nat)
  | _, [] => none
  | k, b :: t =>
    if k ≥ 10 then none
    else if k = 9 ∧ b.toNat > 1 then none
    else if b.toNat < 128 then some (b.toNat * 2 ^ (7 * k), k + 1)
    else (readAt (k + 1) t).map fun r => (b.toNat % 128 * 2 ^ (7 * k) + r.1, r.2)
def readVar (s : Bytes) : Option (Nat × Nat) := readAt 0 s
structure Fld where
  num : Nat
  kind : Nat
  n : Nat
  s : Bytes
deriving DecidableEq
def body (kind : Nat) (s : Bytes) : Option (Nat × Nat × Bytes) :=
  if kind = 0 then (readVar s).map fun r => (r.1, 0, s.drop r.2)
  else if kind = 1 then some (0, 8, s)
  else if kind = 2 then (readVar s).map fun r => (0, r.1, s.drop r.2)
  else if kind = 5 then some (0, 4, s)
  else none
def takeF (s : Bytes) : Option (Fld × Bytes) :=
  match readVar s with
  | none => none
  | some (tag, z) =>
    if tag < 8 ∨ 2 ^ 32 ≤ tag then none
    else match body (tag % 8) (s.drop z) with
      | none => none
      | some (n, size, r) => if size ≤ r.length then some (⟨tag / 8, tag % 8, n, r.take size⟩, r.drop size) else none
theorem readAt_bd (s : Bytes) : ∀ k r, readAt k s = some r → k < r.2 ∧ r.2 ≤ k + s.length ∧ r.2 ≤ 10 := by
  induction s with
  | nil => intro k r h; simp [readAt] at h
  | cons b t ih =>
    intro k r h
    simp only [readAt] at h
    split at h
    · simp at h
    · split at h
      · simp at h
      · split at h
        · simp at h; subst h; simp; omega
        · cases hr : readAt (k + 1) t with
          | none => simp [hr] at h
          | some q =>
            simp [hr] at h; subst h
            have := ih _ _ hr
            simp; omega
theorem readVar_bd {s : Bytes} {r} (h : readVar s = some r) : 1 ≤ r.2 ∧ r.2 ≤ s.length ∧ r.2 ≤ 10 := by
  have := readAt_bd s 0 r h
  omega
theorem readAt_lt (s : Bytes) : ∀ k r, k ≤ 10 → readAt k s = some r → r.1 + 2 ^ (7 * k) ≤ 2 ^ 64 + 0 ∨ r.1 < 2 ^ 64 ∧ 2 ^ (7 * k) ∣ r.1 := by
  induction s with
  | nil => intro k r _ h; simp [readAt] at h
  | cons b t ih =>
    intro k r hk h
    simp only [readAt] at h
    split at h
    · simp at h
    · rename_i h10
      split at h
      · simp at h
      · rename_i h9
        have hb := b.toNat_lt
        split at h
        · rename_i hlt
          simp at h; subst h
          right
          refine ⟨?_, Nat.dvd_mul_left _ _⟩
          simp only
          by_cases e : k = 9
          · subst e
            have : b.toNat ≤ 1 := by omega
            calc b.toNat * 2 ^ 63 ≤ 1 * 2 ^ 63 := Nat.mul_le_mul_right _ this
              _ < 2 ^ 64 := by decide
          · have h1 : 7 * k ≤ 56 := by omega
            have h2 : 2 ^ (7 * k) ≤ 2 ^ 56 := Nat.pow_le_pow_right (by decide) h1
            calc b.toNat * 2 ^ (7 * k) ≤ 128 * 2 ^ 56 := Nat.mul_le_mul (by omega) h2
              _ < 2 ^ 64 := by decide
        · cases hr : readAt (k + 1) t with
          | none => simp [hr] at h
          | some q =>
            simp [hr] at h; subst h
            have hk9 : k ≠ 9 := by
              intro e; apply h9; subst e; omega
            have h8 : k ≤ 8 := by omega
            have hpow : 2 ^ (7 * (k + 1)) = 128 * 2 ^ (7 * k) := by
              rw [show 7 * (k + 1) = 7 * k + 7 by omega, Nat.pow_add]; omega
            have := ih _ _ (by omega) hr
            rcases this with this | ⟨h1, h2⟩
            · left
              simp only
              rw [hpow] at this
              have h3 : b.toNat % 128 * 2 ^ (7 * k) + 2 ^ (7 * k) ≤ 128 * 2 ^ (7 * k) := by
                rw [← Nat.succ_mul]; exact Nat.mul_le_mul_right _ (by omega)
              omega
            · left
              simp only
              rw [hpow] at h2
              obtain ⟨c, hc⟩ := h2
              have h3 : b.toNat % 128 * 2 ^ (7 * k) + 2 ^ (7 * k) ≤ 128 * 2 ^ (7 * k) := by
                rw [← Nat.succ_mul]; exact Nat.mul_le_mul_right _ (by omega)
              have h64 : ∃ e, 2 ^ 64 = 2 ^ (7 * (k + 1)) * e := ⟨2 ^ (64 - 7 * (k + 1)), by rw [← Nat.pow_add]; congr 1; omega⟩
              obtain ⟨e, he⟩ := h64
              rw [hpow] at he
              rw [he] at h1
              have hce : c < e := by
                rw [hc] at h1
                exact Nat.lt_of_mul_lt_mul_left h1
              have h5 : 128 * 2 ^ (7 * k) * (c + 1) ≤ 128 * 2 ^ (7 * k) * e := Nat.mul_le_mul_left _ (by omega)
              rw [Nat.mul_add] at h5
              rw [hc, he]
              omega
theorem readVar_lt {s : Bytes} {r} (h : readVar s = some r) : r.1 < 2 ^ 64 := by
  rcases readAt_lt s 0 r (by omega) h with h | h
  · simp at h; omega
  · exact h.1
theorem body_len {k : Nat} {p : Bytes} {n z r} (h : body k p = some (n, z, r)) : r.length ≤ p.length := by
  simp only [body] at h
  split at h
  · cases hr : readVar p with
    | none => simp [hr] at h
    | some x => simp [hr] at h; obtain ⟨_, _, rfl⟩ := h; simp
  · split at h
    · simp at h; obtain ⟨_, _, rfl⟩ := h; simp
    · split at h
      · cases hr : readVar p with
        | none => simp [hr] at h
        | some x => simp [hr] at h; obtain ⟨_, _, rfl⟩ := h; simp
      · split at h
        · simp at h; obtain ⟨_, _, rfl⟩ := h; simp
        · simp at h
theorem takeF_len {p : Bytes} {f r} (h : takeF p = some (f, r)) : r.length < p.length := by
  simp only [takeF] at h
  cases hr : readVar p with
  | none => simp [hr] at h
  | some x =>
    obtain ⟨tag, z⟩ := x
    simp only [hr] at h
    have hz := readVar_bd hr
    simp only at hz
    split at h
    · simp at h
    · cases hb : body (tag % 8) (p.drop z) with
      | none => simp [hb] at h
      | some y =>
        obtain ⟨n, size, s1⟩ := y
        simp only [hb] at h
        have := body_len hb
        simp only [List.length_drop] at this
        split at h
        · simp at h; obtain ⟨_, rfl⟩ := h; simp; omega
        · simp at h
def parse (s : Bytes) : Option (List Fld) :=
  if s = [] then some []
  else match h : takeF s with
    | none => none
    | some (f, r) => (parse r).map (f :: ·)
termination_by s.length
decreasing_by exact takeF_len h
theorem parse_nil : parse [] = some [] := by rw [parse]; simp
theorem parse_none {s : Bytes} (hs : s ≠ []) (h : takeF s = none) : parse s = none := by
  rw [parse, if_neg hs]; split <;> simp_all
theorem parse_some {s : Bytes} {f r} (h : takeF s = some (f, r)) : parse s = (parse r).map (f :: ·) := by
  have hs : s ≠ [] := by intro e; have := takeF_len h; simp [e] at this
  rw [parse, if_neg hs]; split <;> simp_all
theorem varint_lt {n : Nat} (h : n < 128) : varint n = [UInt8.ofNat n] := by rw [varint]; simp [h]
theorem varint_ge {n : Nat} (h : ¬ n < 128) : varint n = UInt8.ofNat (n % 128 + 128) :: varint (n / 128) := by rw [varint]; simp [h]
theorem readAt_varint (t : Bytes) : ∀ (d n k : Nat), n < 2 ^ d → k < 10 → d + 7 * k = 64 → readAt k (varint n ++ t) = some (n * 2 ^ (7 * k), k + (varint n).length) := by
  intro d
  induction d using Nat.strongRecOn with
  | _ d ih =>
    intro n k hn hk hd
    by_cases h : n < 128
    · rw [varint_lt h]
      simp only [List.cons_append, List.nil_append, readAt, List.length_cons, List.length_nil]
      have hb : (UInt8.ofNat n).toNat = n := by simp [UInt8.toNat_ofNat']; omega
      rw [if_neg (by omega), if_neg (by
        rw [hb]; intro ⟨e, h1⟩; subst e
        have : d = 1 := by omega
        subst this; omega), hb, if_pos h]
    · rw [varint_ge h]
      simp only [List.cons_append, readAt, List.length_cons]
      have hb : (UInt8.ofNat (n % 128 + 128)).toNat = n % 128 + 128 := by simp [UInt8.toNat_ofNat']; omega
      have hd7 : 8 ≤ d := by
        rcases Nat.lt_or_ge d 8 with h8 | h8
        · have : 2 ^ d ≤ 2 ^ 7 := Nat.pow_le_pow_right (by decide) (by omega)
          omega
        · exact h8
      have hn' : n / 128 < 2 ^ (d - 7) := by
        apply Nat.div_lt_of_lt_mul
        calc n < 2 ^ d := hn
          _ = 128 * 2 ^ (d - 7) := by rw [show (128 : Nat) = 2 ^ 7 by decide, ← Nat.pow_add]; congr 1; omega
      rw [if_neg (by omega), if_neg (by omega), hb, if_neg (by omega), ih (d - 7) (by omega) (n / 128) (k + 1) hn' (by omega) (by omega)]
      simp only [Option.map_some]
      have hpow : 2 ^ (7 * (k + 1)) = 128 * 2 ^ (7 * k) := by
        rw [show 7 * (k + 1) = 7 * k + 7 by omega, Nat.pow_add]; omega
      rw [hpow]
      have e1 : (n % 128 + 128) % 128 = n % 128 := by omega
      rw [e1, ← Nat.mul_assoc, ← Nat.add_mul]
      have e2 : n % 128 + n / 128 * 128 = n := by omega
      rw [e2]
      congr 2
      omega
theorem readVar_varint {n : Nat} (t : Bytes) (h : n < 2 ^ 64) : readVar (varint n ++ t) = some (n, (varint n).length) := by
  have := readAt_varint t 64 n 0 h (by omega) (by omega)
  simpa [readVar] using this
theorem varint_length : ∀ (d n : Nat), n < 2 ^ (7 * d) → 1 ≤ d → (varint n).length ≤ d := by
  intro d
  induction d with
  | zero => intro n _ h; omega
  | succ d ih =>
    intro n hn _
    by_cases h : n < 128
    · rw [varint_lt h]; simp
    · rw [varint_ge h]
      have hd : 1 ≤ d := by
        rcases Nat.eq_zero_or_pos d with e | e
        · subst e; simp at hn; omega
        · exact e
      have : n / 128 < 2 ^ (7 * d) := by
        apply Nat.div_lt_of_lt_mul
        calc n < 2 ^ (7 * (d + 1)) := hn
          _ = 128 * 2 ^ (7 * d) := by rw [show (128 : Nat) = 2 ^ 7 by decide, ← Nat.pow_add]; congr 1; omega
      have := ih _ this hd
      simp; omega
theorem varint_len10 {n : Nat} (h : n < 2 ^ 64) : (varint n).length ≤ 10 :=
  varint_length 10 n (Nat.lt_of_lt_of_le h (by decide)) (by decide)
def Fld.Ok (f : Fld) : Prop := 1 ≤ f.num ∧ f.num < 2 ^ 29 ∧ ((f.kind = 0 ∧ f.s = [] ∧ f.n < 2 ^ 64) ∨ (f.kind = 1 ∧ f.s.length = 8 ∧ f.n = 0) ∨ (f.kind = 2 ∧ f.s.length < 2 ^ 64 ∧ f.n = 0) ∨ (f.kind = 5 ∧ f.s.length = 4 ∧ f.n = 0))
def Fld.enc (f : Fld) : Bytes :=
  varint (f.num * 8 + f.kind) ++ (if f.kind = 0 then varint f.n else if f.kind = 2 then varint f.s.length else []) ++ f.s
theorem takeF_enc {f : Fld} (h : f.Ok) (t : Bytes) : takeF (f.enc ++ t) = some (f, t) := by
  obtain ⟨num, kind, n, s⟩ := f
  obtain ⟨h1, h2, h⟩ := h
  simp only at h1 h2 h
  simp only [Fld.enc, takeF]
  have hk : kind < 8 := by omega
  have htag : num * 8 + kind < 2 ^ 64 := by omega
  rw [show (varint (num * 8 + kind) ++ (if kind = 0 then varint n else if kind = 2 then varint s.length else []) ++ s ++ t) = varint (num * 8 + kind) ++ ((if kind = 0 then varint n else if kind = 2 then varint s.length else []) ++ (s ++ t)) by simp]
  rw [readVar_varint _ htag]
  simp only
  rw [if_neg (by omega), List.drop_left]
  have e1 : (num * 8 + kind) % 8 = kind := by omega
  have e2 : (num * 8 + kind) / 8 = num := by omega
  rw [e1, e2]
  rcases h with ⟨rfl, rfl, h⟩ | ⟨rfl, h, rfl⟩ | ⟨rfl, h, rfl⟩ | ⟨rfl, h, rfl⟩
  · simp only [body, if_true, List.nil_append]
    rw [readVar_varint _ h]
    simp
  · simp [body, h]
  · simp only [body]
    simp only [show ¬ ((2 : Nat) = 0) by decide, show ¬ ((2 : Nat) = 1) by decide, if_false, if_true]
    rw [readVar_varint _ h]
    simp
  · simp [body, h]
theorem parse_enc {f : Fld} (h : f.Ok) (t : Bytes) : parse (f.enc ++ t) = (parse t).map (f :: ·) := parse_some (takeF_enc h t)
def encs (l : List Fld) : Bytes := l.flatMap Fld.enc
theorem parse_encs (l : List Fld) (h : ∀ f ∈ l, f.Ok) (t : Bytes) : parse (encs l ++ t) = (parse t).map (l ++ ·) := by
  induction l with
  | nil => simp [encs]
  | cons f l ih =>
    have e : encs (f :: l) ++ t = f.enc ++ (encs l ++ t) := by simp [encs]
    rw [e, parse_enc (h f (by simp)), ih (fun g hg => h g (by simp [hg]))]
    cases parse t <;> simp
theorem parse_encs' (l : List Fld) (h : ∀ f ∈ l, f.Ok) : parse (encs l) = some l := by
  have := parse_encs l h []
  simpa [parse_nil] using this
end NW
namespace Go.Proofs.YtbdacbcpniegiaaDoor
open Go Go.RowKit Go.Proofs Go.Sx
set_option maxRecDepth 10000 in
theorem or128 {x : Int} (h0 : 0 ≤ x) (h1 : x < 256) : bits .or .u8 x 128 = x % 128 + 128 := by
  have := (by decide : ∀ x : Fin 256, bits .or .u8 (x.val : Int) 128 = (x.val : Int) % 128 + 128) ⟨x.toNat, by omega⟩
  simp only [Int.toNat_of_nonneg h0] at this
  exact this
theorem varint_any (n : Nat) (hn : n < 18446744073709551616) (w : World) :
    Calls Tryd.prog 128 #[.int .u64 n] w fun e w' => e = .returned (.string (B (NW.varint n))) ∧ Below w.heap.size w w' := by
  have hlen := NW.varint_len10 (n := n) (by omega)
  refine calls_pureK (args := [.int .u64 n]) w Tryd.func128 rfl Tryd.ntmps128 (by simp) ?_
  intro X K hX hK
  have hnt : X.nt = 21 := by rw [hX]
  have hwi : X.wi = w := by rw [hX]
  have hP : X.P = Tryd.prog := by rw [hX]
  have hown : X.own = [] := by rw [hX]
  have hbl : X.base.length = 0 := by rw [hX]; rfl
  clear hX
  have hT := Ty.T128 hP
  refine SX.seqK ?_
  intro N hN
  refine SX.ops ?_
  simp only [GA, ↓GB, GX, simprocAttr, hnt, hT]
  refine hN _ ?_
  clear hN N
  refine SX.seqK ?_
  intro N hN
  refine SX.ops ?_
  simp only [GA, ↓GB, GX, simprocAttr, hnt, hT]
  refine hN _ ?_
  clear hN N
  refine SX.seqK ?_
  intro N hN
  refine SX.block (SX.loop (ι := { p : Nat × List UInt8 // p.2 ++ NW.varint p.1 = NW.varint n ∧ p.1 < 18446744073709551616 }) (fun i => ⟨[(0, vv (.int .u64 i.1.1)), (3, .one (.c (.row 0)))], [.row 5 1 i.1.2.length (bcells i.1.2)]⟩) (fun i => i.1.1) ⟨(n, []), by simp, hn⟩ ⟨[0], (LeR.of (by rw [hbl]; decide) (by simp only [GA, ↓GB, GX, simprocAttr, GDs]; try (rfl)) (by simp only [GA, ↓GB, GX, simprocAttr, GDs]; try (rfl)) (by decide) (by simp only [GA, ↓GB, GX, simprocAttr, GDs]) (by simp only [GA, ↓GB, GX, simprocAttr, GDs]) (by simp only [GA, ↓GB, GX, simprocAttr, GDs]))⟩ ?_)
  rintro ⟨⟨m, l⟩, hml, hm⟩
  simp only at hml hm ⊢
  have hl10 : l.length ≤ 10 := by have := congrArg List.length hml; simp at this; omega
  refine SX.seqK ?_; intro N2 hN2
  refine SX.seqK ?_; intro N3 hN3
  refine SX.ops ?_
  simp only [GA, ↓GB, GX, simprocAttr, hnt, hT]
  refine hN3 _ ?_
  clear hN3 N3
  refine SX.cond (b := decide ((128 : Int) ≤ m)) rfl (fun hb => ?_) (fun hb => ?_)
  · refine SX.skip (hN2 _ ?_)
    clear hN2 N2
    have hb' : 128 ≤ m := by have := of_decide_eq_true hb; omega
    refine SX.seqK ?_; intro N4 hN4
    refine SX.block ?_
    refine SX.ops ?_
    simp only [GA, ↓GB, GX, simprocAttr, hnt, hT]
    have e1 : IntKind.u8.wrap (m : Int) = ((m % 256 : Nat) : Int) := by rw [IntKind.wrap_u8]; omega
    rw [e1, or128 (by omega) (by omega)]
    first | refine ⟨by omega, hN4 _ ?_⟩ | refine hN4 _ ?_
    clear hN4 N4
    refine SX.ops ?_
    simp only [GA, ↓GB, GX, simprocAttr, hnt, hT]
    have e2 : (m : Int).fdiv (2 ^ (min 7 IntKind.u64.bits)) = ((m / 128 : Nat) : Int) := by
      rw [show (2 : Int) ^ (min 7 IntKind.u64.bits) = 128 from rfl, Int.fdiv_eq_ediv_of_nonneg _ (by decide)]; omega
    have e3 : ((m % 256 : Nat) : Int) % 128 + 128 = ((UInt8.ofNat (m % 128 + 128)).toNat : Int) := by
      simp [UInt8.toNat_ofNat']; omega
    rw [e2, e3]
    refine ⟨⟨(m / 128, l ++ [UInt8.ofNat (m % 128 + 128)]), ?_, by omega⟩, [2], (LeR.of (by rw [hbl]; decide) (by simp only [GA, ↓GB, GX, simprocAttr, GDs]; try (simp [bcells])) (by simp only [GA, ↓GB, GX, simprocAttr, GDs]; try (simp [bcells])) (by decide) (by simp only [GA, ↓GB, GX, simprocAttr, GDs]) (by simp only [GA, ↓GB, GX, simprocAttr, GDs]) (by simp only [GA, ↓GB, GX, simprocAttr, GDs])), (by show m / 128 < m; omega)⟩
    rw [← hml, NW.varint_ge (by omega : ¬ m < 128)]; simp
  · refine SX.exit ?_
    simp only [GA, ↓GB, GX, simprocAttr, hnt]
    have hb' : m < 128 := by have := of_decide_eq_false hb; omega
    refine hN _ ?_
    clear hN hN2 N N2
    refine SX.seqK ?_
    intro N hN
    refine SX.ops ?_
    simp only [GA, ↓GB, GX, simprocAttr, hnt, hT]
    have e1 : IntKind.u8.wrap (m : Int) = ((UInt8.ofNat m).toNat : Int) := by rw [IntKind.wrap_u8]; simp [UInt8.toNat_ofNat']
    rw [e1]
    refine ⟨by omega, l ++ [UInt8.ofNat m], by simp [bcells], ?_⟩
    refine hN _ ?_
    clear hN N
    refine SX.ret (hK _ _ (Fin.one rfl rfl hown ?_))
    rw [hwi]; intro w' hb; exact ⟨by rw [← hml, NW.varint_lt hb'], hb⟩
end Go.Proofs.YtbdacbcpniegiaaDoor
namespace Go.Proofs.YtbdacbcpniegiaaDoor
open Go Go.RowKit Go.Proofs Go.Sx
set_option maxRecDepth 10000 in
theorem andNot128 {x : Int} (h0 : 0 ≤ x) (h1 : x < 256) : bits .andNot .u8 x 128 = x % 128 := by
  have := (by decide : ∀ x : Fin 256, bits .andNot .u8 (x.val : Int) 128 = (x.val : Int) % 128) ⟨x.toNat, by omega⟩
  simp only [Int.toNat_of_nonneg h0] at this
  exact this
theorem wi64 {x : Int} (h0 : -9223372036854775808 ≤ x) (h1 : x < 9223372036854775808) : IntKind.i64.wrap x = x := by
  rw [IntKind.wrap_i64, Int.emod_eq_of_lt (by omega) (by omega)]; omega
theorem wu64 {x : Int} (h0 : 0 ≤ x) (h1 : x < 18446744073709551616) : IntKind.u64.wrap x = x := by
  rw [IntKind.wrap_u64, Int.emod_eq_of_lt h0 h1]
theorem orShift (acc k x : Nat) (hk : k ≤ 9) (hacc : acc < 2 ^ (7 * k)) (hx : x * 2 ^ (7 * k) < 18446744073709551616) (hx8 : x < 128) :
    bits .or .u64 acc (IntKind.u64.wrap (IntKind.u64.wrap x * 2 ^ min (IntKind.i64.wrap (7 * (k : Int))).toNat IntKind.u64.bits)) = ((acc + x * 2 ^ (7 * k) : Nat) : Int) := by
  have h1 : (IntKind.i64.wrap (7 * (k : Int))).toNat = 7 * k := by rw [wi64 (by omega) (by omega)]; omega
  have h2 : min (7 * k) IntKind.u64.bits = 7 * k := by have : IntKind.u64.bits = 64 := rfl; omega
  have h3 : IntKind.u64.wrap (x : Int) = x := by rw [IntKind.wrap_u64]; omega
  have h4 : ((x : Int) * 2 ^ (7 * k)) = ((x * 2 ^ (7 * k) : Nat) : Int) := by simp
  have h5 : IntKind.u64.wrap ((x * 2 ^ (7 * k) : Nat) : Int) = ((x * 2 ^ (7 * k) : Nat) : Int) := by rw [IntKind.wrap_u64]; omega
  have hp : 2 ^ (7 * k) ≤ 2 ^ 63 := Nat.pow_le_pow_right (by decide) (by omega)
  rw [h1, h2, h3, h4, h5, bits_or_u64_nat _ _ (by omega) hx]
  congr 1
  rw [Nat.mul_comm x, Nat.or_comm, ← Nat.two_pow_add_eq_or_of_lt hacc, Nat.add_comm]
def rvR (s : List UInt8) : Nat × Nat × Bool := match NW.readVar s with | some (n, z) => (n, z, true) | none => (0, 0, false)
theorem rvR_none {s : List UInt8} (h : NW.readVar s = none) : rvR s = (0, 0, false) := by simp [rvR, h]
theorem rvR_some {s : List UInt8} {r : Nat × Nat} (h : NW.readVar s = some r) : rvR s = (r.1, r.2, true) := by simp [rvR, h]
theorem readVarint_any (s : List UInt8) (hs : s.length ≤ 4611686018427387904) (w : World) :
    Calls Tryd.prog 172 #[.string (B s)] w fun e w' => e = .returned (.tuple #[.int .u64 (rvR s).1, .int .i64 (rvR s).2.1, .bool (rvR s).2.2]) ∧ Below w.heap.size w w' := by
  refine calls_pureK (args := [.string (B s)]) w Tryd.func172 rfl Tryd.ntmps172 (by simp) ?_
  intro X K hX hK
  have hnt : X.nt = 36 := by rw [hX]
  have hwi : X.wi = w := by rw [hX]
  have hP : X.P = Tryd.prog := by rw [hX]
  have hown : X.own = [] := by rw [hX]
  have hbl : X.base.length = 0 := by rw [hX]; rfl
  clear hX
  have hT := Ty.T172 hP
  repeat (refine SX.seqK ?_; intro N hN)
  refine SX.ops ?_
  simp only [GA, ↓GB, GX, simprocAttr, hnt, hT]
  refine hN _ ?_
  clear hN N
  repeat (refine SX.seqK ?_; intro N hN)
  refine SX.ops ?_
  simp only [GA, ↓GB, GX, simprocAttr, hnt, hT]
  have hmin : (if (s.length : Int) < 10 then (s.length : Int) else 10) = ((min 10 s.length : Nat) : Int) := by split <;> omega
  rw [hmin]
  refine hN _ ?_
  clear hN N
  refine SX.block (SX.loop (ι := { p : Nat × Nat // p.1 ≤ min 10 s.length ∧ p.2 < 2 ^ (7 * p.1) ∧ NW.readVar s = (NW.readAt p.1 (s.drop p.1)).map (fun r => (p.2 + r.1, r.2)) })
    (fun i => ⟨[(0, vv (.string (B s))), (2, vv (.int .u64 i.1.2)), (9, vv (.int .i64 ((min 10 s.length : Nat) : Int))), (10, vv (.int .i64 i.1.1))], []⟩) (fun i => 10 - i.1.1)
    ⟨(0, 0), by omega, by decide, by cases h : NW.readAt 0 s <;> simp [NW.readVar, h]⟩ ⟨[], (LeR.of (by rw [hbl]; decide) (by simp only [GA, ↓GB, GX, simprocAttr, GDs]; try (exact ⟨rfl, rfl⟩)) (by simp only [GA, ↓GB, GX, simprocAttr, GDs]; try (exact ⟨rfl, rfl⟩)) (by decide) (by simp only [GA, ↓GB, GX, simprocAttr, GDs]) (by simp only [GA, ↓GB, GX, simprocAttr, GDs]) (by simp only [GA, ↓GB, GX, simprocAttr, GDs]))⟩ ?_)
  rintro ⟨⟨k, acc⟩, hk, hacc, hrv⟩
  simp only at hk hacc hrv ⊢
  repeat (refine SX.seqK ?_; intro N hN)
  refine SX.ops ?_
  simp only [GA, ↓GB, GX, simprocAttr, hnt, hT]
  refine hN _ ?_
  clear hN N
  repeat (refine SX.seqK ?_; intro N hN)
  refine SX.cond (b := decide ((k : Int) < ((min 10 s.length : Nat) : Int))) rfl (fun hb => ?_) (fun hb => ?_)
  · refine SX.skip (hN _ ?_); clear hN N
    have hlt : k < min 10 s.length := by have := of_decide_eq_true hb; omega
    have hdrop : s.drop k = s[k]'(by omega) :: s.drop (k + 1) := List.drop_eq_getElem_cons (by omega)
    have hget : s.getD (k) 0 = s[k]'(by omega) := by simp [List.getD_eq_getElem?_getD, show k < s.length by omega]
    rw [hdrop] at hrv
    have hb8 := (s[k]'(by omega)).toNat_lt
    repeat (refine SX.seqK ?_; intro N hN)
    refine SX.block ?_
    repeat (refine SX.seqK ?_; intro N hN)
    refine SX.ops ?_
    simp only [GA, ↓GB, GX, simprocAttr, hnt, hT]
    refine hN _ ?_
    clear hN N
    repeat (refine SX.seqK ?_; intro N hN)
    refine SX.ops ?_
    simp only [GA, ↓GB, GX, simprocAttr, hnt, hT]
    refine ⟨by omega, by omega, ?_⟩
    rw [hget]
    generalize s[k]'(by omega) = b at *
    refine hN _ ?_
    clear hN N
    repeat (refine SX.seqK ?_; intro N hN)
    refine SX.ops ?_
    simp only [GA, ↓GB, GX, simprocAttr, hnt, hT]
    refine SX.merge (d := ⟨[(21, vv (.bool (decide (k = 9) && decide (1 < b.toNat)))), (0, vv (.string (B s))), (2, vv (.int .u64 acc)), (5, vv (.int .i64 k)), (6, vv (.int .u8 b.toNat)), (9, vv (.int .i64 ((min 10 s.length : Nat) : Int))), (10, vv (.int .i64 k))], []⟩) hN [] []
      (fun h9 => (LeR.of (by rw [hbl]; decide) (by simp only [GA, ↓GB, GX, simprocAttr, GDs]; try ((have h9' : k = 9 := by have := eq_of_beq h9; omega); simp [h9']; omega)) (by simp only [GA, ↓GB, GX, simprocAttr, GDs]; try ((have h9' : k = 9 := by have := eq_of_beq h9; omega); simp [h9']; omega)) (by decide) (by simp only [GA, ↓GB, GX, simprocAttr, GDs]) (by simp only [GA, ↓GB, GX, simprocAttr, GDs]) (by simp only [GA, ↓GB, GX, simprocAttr, GDs]))) (fun h9 => (LeR.of (by rw [hbl]; decide) (by simp only [GA, ↓GB, GX, simprocAttr, GDs]; try (simp [show k ≠ 9 by intro e; subst e; simp at h9])) (by simp only [GA, ↓GB, GX, simprocAttr, GDs]; try (simp [show k ≠ 9 by intro e; subst e; simp at h9])) (by decide) (by simp only [GA, ↓GB, GX, simprocAttr, GDs]) (by simp only [GA, ↓GB, GX, simprocAttr, GDs]) (by simp only [GA, ↓GB, GX, simprocAttr, GDs]))) ?_
    clear hN N
    repeat (refine SX.seqK ?_; intro N hN)
    refine SX.cond (b := (decide (k = 9) && decide (1 < b.toNat))) rfl (fun hb => ?_) (fun hb => ?_)
    · refine SX.exit ?_
      simp only [GA, ↓GB, GX, simprocAttr, hnt]
      have hnone : NW.readVar s = none := by
        simp only [Bool.and_eq_true, decide_eq_true_eq] at hb
        obtain ⟨rfl, hb⟩ := hb
        rw [hrv, NW.readAt, if_neg (by omega), if_pos ⟨rfl, by omega⟩]; rfl
      clear hN N; clear hN N
      refine hN _ ?_
      clear hN N
      repeat (refine SX.seqK ?_; intro N hN)
      refine SX.ops ?_
      simp only [GA, ↓GB, GX, simprocAttr, hnt, hT]
      refine hN _ ?_
      clear hN N
      refine SX.ret (hK _ _ (Fin.three rfl rfl rfl rfl hown ?_))
      rw [hwi]; intro w' hb; exact ⟨by rw [rvR_none hnone]; rfl, hb⟩
    · refine SX.skip (hN _ ?_); clear hN N
      have hr : NW.readAt k (b :: s.drop (k + 1)) = if b.toNat < 128 then some (b.toNat * 2 ^ (7 * k), k + 1) else (NW.readAt (k + 1) (s.drop (k + 1))).map fun r => (b.toNat % 128 * 2 ^ (7 * k) + r.1, r.2) := by
        simp only [Bool.and_eq_false_iff, decide_eq_false_iff_not] at hb
        rw [NW.readAt, if_neg (by omega), if_neg (by omega)]
      rw [hr] at hrv
      repeat (refine SX.seqK ?_; intro N hN)
      refine SX.ops ?_
      simp only [GA, ↓GB, GX, simprocAttr, hnt, hT]
      have hx8 : b.toNat % 128 < 128 := Nat.mod_lt _ (by decide)
      have hx : b.toNat % 128 * 2 ^ (7 * k) < 18446744073709551616 := by
        by_cases e9 : k = 9
        · subst e9
          have : b.toNat ≤ 1 := by simp at hb; exact hb
          omega
        · have h2 : 2 ^ (7 * k) ≤ 2 ^ 56 := Nat.pow_le_pow_right (by decide) (by omega)
          have : b.toNat % 128 * 2 ^ (7 * k) ≤ 127 * 2 ^ 56 := Nat.mul_le_mul (by omega) h2
          omega
      have hv : bits .or .u64 acc (IntKind.u64.wrap (IntKind.u64.wrap (bits .andNot .u8 b.toNat 128) * 2 ^ min (IntKind.i64.wrap (7 * (k : Int))).toNat IntKind.u64.bits)) = ((acc + b.toNat % 128 * 2 ^ (7 * k) : Nat) : Int) := by
        rw [andNot128 (by omega) (by omega)]
        have := orShift acc k (b.toNat % 128) (by omega) hacc hx hx8
        simpa using this
      rw [hv]
      refine ⟨by rw [wi64 (by omega) (by omega)]; omega, ?_⟩
      refine hN _ ?_
      clear hN N
      repeat (refine SX.seqK ?_; intro N hN)
      refine SX.ops ?_
      simp only [GA, ↓GB, GX, simprocAttr, hnt, hT]
      refine hN _ ?_
      clear hN N
      repeat (refine SX.seqK ?_; intro N hN)
      refine SX.cond (b := decide ((b.toNat : Int) < 128)) rfl (fun hb => ?_) (fun hb => ?_)
      · have hb2 : b.toNat < 128 := by have := of_decide_eq_true ‹decide ((b.toNat : Int) < 128) = true›; omega
        rw [if_pos hb2] at hrv
        simp only [Option.map_some] at hrv
        have e1 : IntKind.i64.wrap ((k : Int) + 1) = ((k + 1 : Nat) : Int) := by rw [wi64 (by omega) (by omega)]; rfl
        repeat (refine SX.seqK ?_; intro N hN)
        refine SX.ops ?_
        simp only [GA, ↓GB, GX, simprocAttr, hnt, hT]
        rw [e1]
        refine hN _ ?_
        clear hN N
        refine SX.ret ?_
        simp only [GA, ↓GB, GX, simprocAttr, hnt]
        refine hK _ _ (Fin.three rfl rfl rfl rfl hown ?_)
        rw [hwi]; intro w' hb; exact ⟨by rw [rvR_some hrv]; simp [Nat.mod_eq_of_lt hb2], hb⟩
      · have hb2 : ¬ b.toNat < 128 := by have := of_decide_eq_false ‹decide ((b.toNat : Int) < 128) = false›; omega
        rw [if_neg hb2] at hrv
        refine SX.skip ?_
        simp only [GA, ↓GB, GX, simprocAttr, hnt]
        refine hN _ ?_
        clear hN N
        refine SX.ops ?_
        simp only [GA, ↓GB, GX, simprocAttr, hnt, hT]
        have e1 : IntKind.i64.wrap ((k : Int) + 1) = ((k + 1 : Nat) : Int) := by rw [wi64 (by omega) (by omega)]; rfl
        rw [e1]
        refine ⟨⟨(k + 1, acc + b.toNat % 128 * 2 ^ (7 * k)), by omega, ?_, ?_⟩, [], (LeR.of (by rw [hbl]; decide) (by simp only [GA, ↓GB, GX, simprocAttr, GDs]; try (exact ⟨rfl, rfl⟩)) (by simp only [GA, ↓GB, GX, simprocAttr, GDs]; try (exact ⟨rfl, rfl⟩)) (by decide) (by simp only [GA, ↓GB, GX, simprocAttr, GDs]) (by simp only [GA, ↓GB, GX, simprocAttr, GDs]) (by simp only [GA, ↓GB, GX, simprocAttr, GDs])), ?_⟩
        · show _ < 2 ^ (7 * (k + 1))
          rw [show 7 * (k + 1) = 7 * k + 7 by omega, Nat.pow_add]
          have : b.toNat % 128 * 2 ^ (7 * k) ≤ 127 * 2 ^ (7 * k) := Nat.mul_le_mul_right _ (by omega)
          show _ + _ < _
          omega
        · rw [hrv]
          cases NW.readAt (k + 1) (s.drop (k + 1)) <;> simp
          omega
        · show 10 - (k + 1) < 10 - k
          omega
  · refine SX.exit ?_
    simp only [GA, ↓GB, GX, simprocAttr, hnt]
    clear hN N
    refine hN _ ?_
    clear hN N
    repeat (refine SX.seqK ?_; intro N hN)
    refine SX.ops ?_
    simp only [GA, ↓GB, GX, simprocAttr, hnt, hT]
    refine hN _ ?_
    clear hN N
    have hk' : k = min 10 s.length := by have := of_decide_eq_false hb; omega
    have hnone : NW.readVar s = none := by
      rw [hrv]
      by_cases h10 : 10 ≤ s.length
      · have : k = 10 := by omega
        subst this
        cases h : s.drop 10 <;> simp [NW.readAt]
      · rw [List.drop_eq_nil_of_le (by omega)]; simp [NW.readAt]
    refine SX.ret (hK _ _ (Fin.three rfl rfl rfl rfl hown ?_))
    rw [hwi]; intro w' hb; exact ⟨by rw [rvR_none hnone]; rfl, hb⟩
end Go.Proofs.YtbdacbcpniegiaaDoor
namespace Go.Proofs.YtbdacbcpniegiaaDoor
open Go Go.RowKit Go.Proofs Go.Sx
structure Wire (w : World) (es ew : Value) : Prop where
  short : w.cell? ⟨2, 0, none⟩ = some es
  wrong : w.cell? ⟨3, 0, none⟩ = some ew
  s1 : es.oneCell' = true
  w1 : ew.oneCell' = true
def takeS (s : List UInt8) (es ew : Value) (v : Value) : Prop := ∃ (num kind : Int) (n : Nat) (fs r : List UInt8) (ev : Value),
  v = .tuple #[.agg #[.int .i64 num, .int .i64 kind, .int .u64 n, .string (B fs)], .string (B r), ev] ∧ r.length ≤ s.length ∧
  (match NW.takeF s with | some (f, r') => num = f.num ∧ kind = f.kind ∧ n = f.n ∧ fs = f.s ∧ r = r' ∧ ev = .nilIface | none => ev = es ∨ ev = ew)
theorem take_any (s : List UInt8) (hs : s.length ≤ 1152921504606846976) (w : World) (es ew : Value) (hw : Wire w es ew) :
    Calls Tryd.prog 164 #[.string (B s)] w fun e w' => ∃ v, e = .returned v ∧ takeS s es ew v ∧ Below w.heap.size w w' := by
  have hw1 := hw.short
  have hw2 := hw.wrong
  have h1 := hw.s1
  have h2 := hw.w1
  cases h : NW.readVar s with
  | none =>
    have hT0 : NW.takeF s = none := by simp [NW.takeF, h]
    refine calls_pureK (args := [.string (B s)]) w Tryd.func164 rfl Tryd.ntmps164 (by simp) ?_
    intro X K hX hK
    have hnt : X.nt = 107 := by rw [hX]
    have hwi : X.wi = w := by rw [hX]
    have hP : X.P = Tryd.prog := by rw [hX]
    have hown : X.own = [] := by rw [hX]
    have hbl : X.base.length = 0 := by rw [hX]; rfl
    clear hX
    have hT := Ty.T164 hP
    rw [← hwi] at hw1 hw2
    repeat (refine SX.seqK ?_; intro N hN)
    refine SX.ops ?_
    simp only [GA, ↓GB, GX, simprocAttr, hnt, hT]
    refine hN _ ?_
    clear hN N
    repeat (refine SX.seqK ?_; intro N hN)
    refine SX.ops ?_
    simp only [GA, ↓GB, GX, simprocAttr, hnt, hT]
    refine CallVC.pt (l := [_, _, _]) hP (readVarint_any s (by omega)) rfl ?_
    simp only [GA, ↓GB, GX, simprocAttr, hnt, hT, rvR_none h]
    refine hN _ ?_
    clear hN N
    repeat (refine SX.seqK ?_; intro N hN)
    refine SX.ops ?_
    simp only [GA, ↓GB, GX, simprocAttr, hnt, hT]
    refine hN _ ?_
    clear hN N
    repeat (refine SX.seqK ?_; intro N hN)
    refine SX.cond (b := true) rfl (fun hb => ?_) (fun hb => ?_)
    · repeat (refine SX.seqK ?_; intro N hN)
      refine SX.draw 5 (by rw [hP]; kernel_rfl) (by kernel_rfl) ?_
      simp only [GA, ↓GB, GX, simprocAttr, d_nil, d_cons, d_move, d_assign, d_load, d_slice, d_store, d_sto, d_sam, List.take_succ_cons, List.drop_succ_cons, List.drop_zero, List.take_zero, hnt, hT , hw1, hw2, hown, List.not_mem_nil, not_false_eq_true]
      refine hN _ ?_
      clear hN N
      refine SX.ret (hK _ _ (Fin.res rfl hown ?_))
      simp only [GA, ↓GB, GX, simprocAttr, f_a, f_b, f_n, f_c, f_B, f_v, f_g, f_0, f_1, f_2, hT, hwi]
      intro w' hb
      exact ⟨_, rfl, ⟨0, 0, 0, [], s, es, rfl, by omega, by rw [hT0]; exact .inl rfl⟩, hb⟩
    · cases hb
  | some tz =>
    obtain ⟨tag, z⟩ := tz
    have hz := NW.readVar_bd h
    have htag := NW.readVar_lt h
    simp only at hz htag
    have d1 : ((tag : Int) * 1 = tag) := by omega
    by_cases ht : tag < 8 ∨ 4294967296 ≤ tag
    · have hT0 : NW.takeF s = none := by simp [NW.takeF, h, ht]
      have hd : (decide (4294967296 ≤ (tag : Int)) || decide ((tag : Int) < 8)) = true := by simp; omega
      refine calls_pureK (args := [.string (B s)]) w Tryd.func164 rfl Tryd.ntmps164 (by simp) ?_
      intro X K hX hK
      have hnt : X.nt = 107 := by rw [hX]
      have hwi : X.wi = w := by rw [hX]
      have hP : X.P = Tryd.prog := by rw [hX]
      have hown : X.own = [] := by rw [hX]
      have hbl : X.base.length = 0 := by rw [hX]; rfl
      clear hX
      have hT := Ty.T164 hP
      rw [← hwi] at hw1 hw2
      repeat (refine SX.seqK ?_; intro N hN)
      refine SX.ops ?_
      simp only [GA, ↓GB, GX, simprocAttr, hnt, hT]
      refine hN _ ?_
      clear hN N
      repeat (refine SX.seqK ?_; intro N hN)
      refine SX.ops ?_
      simp only [GA, ↓GB, GX, simprocAttr, hnt, hT]
      refine CallVC.pt (l := [_, _, _]) hP (readVarint_any s (by omega)) rfl ?_
      simp only [GA, ↓GB, GX, simprocAttr, hnt, hT, rvR_some h]
      refine hN _ ?_
      clear hN N
      repeat (refine SX.seqK ?_; intro N hN)
      refine SX.ops ?_
      simp only [GA, ↓GB, GX, simprocAttr, hnt, hT]
      refine hN _ ?_
      clear hN N
      repeat (refine SX.seqK ?_; intro N hN)
      refine SX.cond (b := false) rfl (fun hb => ?_) (fun hb => ?_)
      · cases hb
      refine SX.skip (hN _ ?_); clear hN N
      repeat (refine SX.seqK ?_; intro N hN)
      refine SX.ops ?_
      simp only [GA, ↓GB, GX, simprocAttr, hnt, hT]
      refine SX.merge (d := ⟨[(31, vv (.bool true)), (0, vv (.string (B s))), (2, .one (.c (.loc 0 0))), (5, vv (.int .u64 tag)), (6, vv (.int .i64 z))], [.cells [.v (.int .i64 0), .v (.int .i64 0), .v (.int .u64 0), .v (.string ⟨#[]⟩)] 143]⟩) hN [0] [0] (fun hq => (LeR.of (by rw [hbl]; decide) (by simp only [GA, ↓GB, GX, simprocAttr, GDs]; try (rfl)) (by simp only [GA, ↓GB, GX, simprocAttr, GDs]; try (rfl)) (by decide) (by simp only [GA, ↓GB, GX, simprocAttr, GDs]) (by simp only [GA, ↓GB, GX, simprocAttr, GDs]) (by simp only [GA, ↓GB, GX, simprocAttr, GDs]))) (fun hq => (LeR.of (by rw [hbl]; decide) (by simp only [GA, ↓GB, GX, simprocAttr, GDs]; try (have := of_decide_eq_false hq; simp; omega)) (by simp only [GA, ↓GB, GX, simprocAttr, GDs]; try (have := of_decide_eq_false hq; simp; omega)) (by decide) (by simp only [GA, ↓GB, GX, simprocAttr, GDs]) (by simp only [GA, ↓GB, GX, simprocAttr, GDs]) (by simp only [GA, ↓GB, GX, simprocAttr, GDs]))) ?_
      clear hN N
      repeat (refine SX.seqK ?_; intro N hN)
      refine SX.cond (b := true) rfl (fun hb => ?_) (fun hb => ?_)
      · repeat (refine SX.seqK ?_; intro N hN)
        refine SX.draw 5 (by rw [hP]; kernel_rfl) (by kernel_rfl) ?_
        simp only [GA, ↓GB, GX, simprocAttr, d_nil, d_cons, d_move, d_assign, d_load, d_slice, d_store, d_sto, d_sam, List.take_succ_cons, List.drop_succ_cons, List.drop_zero, List.take_zero, hnt, hT , hw1, hw2, hown, List.not_mem_nil, not_false_eq_true]
        refine hN _ ?_
        clear hN N
        refine SX.ret (hK _ _ (Fin.res rfl hown ?_))
        simp only [GA, ↓GB, GX, simprocAttr, f_a, f_b, f_n, f_c, f_B, f_v, f_g, f_0, f_1, f_2, hT, hwi]
        intro w' hb
        exact ⟨_, rfl, ⟨0, 0, 0, [], s, ew, rfl, by omega, by rw [hT0]; exact .inr rfl⟩, hb⟩
      · cases hb
    · have g1 : decide (4294967296 ≤ (tag : Int)) = false := by simp; omega
      have g2 : decide ((tag : Int) < 8) = false := by simp; omega
      have q1 : IntKind.u64.wrap ((tag : Int).tdiv 8) = ((tag / 8 : Nat) : Int) := by rw [Int.tdiv_eq_ediv_of_nonneg (by omega), wu64 (by omega) (by omega)]; omega
      have q2 : IntKind.i64.wrap ((tag / 8 : Nat) : Int) = ((tag / 8 : Nat) : Int) := wi64 (by omega) (by omega)
      have q3 : (tag : Int).tmod 8 = ((tag % 8 : Nat) : Int) := by rw [Int.tmod_eq_emod_of_nonneg (by omega)]; omega
      have q4 : IntKind.i64.wrap ((tag % 8 : Nat) : Int) = ((tag % 8 : Nat) : Int) := wi64 (by omega) (by omega)
      have hk8 : tag % 8 < 8 := Nat.mod_lt _ (by decide)
      refine calls_pureK (args := [.string (B s)]) w Tryd.func164 rfl Tryd.ntmps164 (by simp) ?_
      intro X K hX hK
      have hnt : X.nt = 107 := by rw [hX]
      have hwi : X.wi = w := by rw [hX]
      have hP : X.P = Tryd.prog := by rw [hX]
      have hown : X.own = [] := by rw [hX]
      have hbl : X.base.length = 0 := by rw [hX]; rfl
      clear hX
      have hT := Ty.T164 hP
      rw [← hwi] at hw1 hw2
      repeat (refine SX.seqK ?_; intro N hN)
      refine SX.ops ?_
      simp only [GA, ↓GB, GX, simprocAttr, hnt, hT]
      refine hN _ ?_
      clear hN N
      repeat (refine SX.seqK ?_; intro N hN)
      refine SX.ops ?_
      simp only [GA, ↓GB, GX, simprocAttr, hnt, hT]
      refine CallVC.pt (l := [_, _, _]) hP (readVarint_any s (by omega)) rfl ?_
      simp only [GA, ↓GB, GX, simprocAttr, hnt, hT, rvR_some h]
      refine hN _ ?_
      clear hN N
      repeat (refine SX.seqK ?_; intro N hN)
      refine SX.ops ?_
      simp only [GA, ↓GB, GX, simprocAttr, hnt, hT]
      refine hN _ ?_
      clear hN N
      repeat (refine SX.seqK ?_; intro N hN)
      refine SX.cond (b := false) rfl (fun hb => ?_) (fun hb => ?_)
      · cases hb
      refine SX.skip (hN _ ?_); clear hN N
      repeat (refine SX.seqK ?_; intro N hN)
      refine SX.ops ?_
      simp only [GA, ↓GB, GX, simprocAttr, hnt, hT , g1, g2]
      refine hN _ ?_
      clear hN N
      repeat (refine SX.seqK ?_; intro N hN)
      refine SX.cond (b := false) rfl (fun hb => ?_) (fun hb => ?_)
      · cases hb
      refine SX.skip (hN _ ?_); clear hN N
      repeat (refine SX.seqK ?_; intro N hN)
      refine SX.ops ?_
      simp only [GA, ↓GB, GX, simprocAttr, hnt, hT , q1, q2, q3, q4]
      repeat (refine and_mk (by decide) ?_)
      have hdt : List.take (s.length - z) (List.drop z s) = List.drop z s := List.take_of_length_le (by simp)
      generalize hnum : tag / 8 = num at *
      generalize hkind : tag % 8 = kind at *
      refine SX.less (d := ⟨[(0, vv (.string (B s))), (2, .one (.c (.loc 0 0))), (6, vv (.int .i64 z))], [.cells [.v (.int .i64 num), .v (.int .i64 kind), .v (.int .u64 0), .v (.string ⟨#[]⟩)] 143]⟩) hN [0] (LeR.of (by rw [hbl]; decide) (by simp only [GA, ↓GB, GX, simprocAttr, GDs]; try (rfl)) (by simp only [GA, ↓GB, GX, simprocAttr, GDs]; try (rfl)) (by decide) (by simp only [GA, ↓GB, GX, simprocAttr, GDs]) (by simp only [GA, ↓GB, GX, simprocAttr, GDs]) (by simp only [GA, ↓GB, GX, simprocAttr, GDs])) ?_
      clear hN N
      repeat (refine SX.seqK ?_; intro N hN)
      refine SX.ops ?_
      simp only [GA, ↓GB, GX, simprocAttr, hnt, hT , hdt]
      repeat (refine and_mk (by omega) ?_)
      refine hN _ ?_
      clear hN N
      repeat (refine SX.seqK ?_; intro N hN)
      refine SX.ops ?_
      simp only [GA, ↓GB, GX, simprocAttr, hnt, hT]
      refine CallVC.inline (by rw [hP]; exact Tryd.func127) rfl Tryd.ntmps127 rfl (by simp) ?_
      have hP0 := hP
      intro X K hU hnt hbl hK
      have hP : X.P = Tryd.prog := (by rw [hU.P, hP0])
      have hT := Ty.T127 hP
      simp only [GA, ↓GB, GX, simprocAttr] at hbl ⊢
      repeat (refine SX.seqK ?_; intro N hN)
      refine SX.ops ?_
      simp only [GA, ↓GB, GX, simprocAttr, hnt, hT]
      refine hN _ ?_
      clear hN N
      repeat (refine SX.seqK ?_; intro N hN)
      refine SX.ops ?_
      simp only [GA, ↓GB, GX, simprocAttr, hnt, hT]
      refine hN _ ?_
      clear hN N
      refine SX.ret (hK _ _ (FinI.ret3 ?_)); simp only [GA, ↓GB, GX, simprocAttr, finP_s, hnt, hT]; clear hT hP hP0 hK hbl hnt hU K X
      refine hN _ ?_
      clear hN N
      generalize hs2 : List.drop z s = s2
      have hs2l : s2.length + z = s.length := by rw [← hs2]; simp; omega
      by_cases hk1 : kind = 1
      · have k0 : ((kind : Int) == 0) = false := by rw [hk1]; rfl
        have k1 : ((kind : Int) == 1) = true := by rw [hk1]; rfl
        have k2 : ((kind : Int) == 2) = false := by rw [hk1]; rfl
        repeat (refine SX.seqK ?_; intro N hN)
        refine SX.ops ?_
        simp only [GA, ↓GB, GX, simprocAttr, hnt, hT , k0, k1, k2]
        refine hN _ ?_
        clear hN N
        repeat (refine SX.seqK ?_; intro N hN)
        refine SX.ops ?_
        simp only [GA, ↓GB, GX, simprocAttr, hnt, hT , wu64]
        refine hN _ ?_
        clear hN N
        repeat (refine SX.seqK ?_; intro N hN)
        refine SX.ops ?_
        simp only [GA, ↓GB, GX, simprocAttr, hnt, hT , k0, k1, k2]
        refine hN _ ?_
        clear hN N
        repeat (refine SX.seqK ?_; intro N hN)
        refine SX.cond (b := false) rfl (fun hb => ?_) (fun hb => ?_)
        · cases hb
        refine SX.skip ?_
        simp only [GA, ↓GB, GX, simprocAttr, hnt]
        refine hN _ ?_
        clear hN N
        refine SX.seqK ?_; intro N hN
        refine SX.block ?_
        repeat (refine SX.seqK ?_; intro N hN)
        refine SX.ops ?_
        simp only [GA, ↓GB, GX, simprocAttr, hnt, hT]
        refine hN _ ?_
        clear hN N
        repeat (refine SX.seqK ?_; intro N hN)
        refine SX.cond (b := false) rfl (fun hb => ?_) (fun hb => ?_)
        · cases hb
        have wL : IntKind.u64.wrap 8 = 8 := by decide
        have wl : IntKind.u64.wrap (s2.length : Int) = (s2.length : Int) := wu64 (by omega) (by omega)
        by_cases hl : s2.length < 8
        · have dL : decide ((s2.length : Int) < 8) = true := by simp; omega
          have hT0 : NW.takeF s = none := by
            rw [NW.takeF, h]; simp only []; rw [if_neg (by omega), hkind, hs2, hk1, hnum]; simp [NW.body, hl]; try omega
          repeat (refine SX.seqK ?_; intro N hN)
          refine SX.ops ?_
          simp only [GA, ↓GB, GX, simprocAttr, hnt, hT , wL, wl, dL]
          refine hN _ ?_
          clear hN N
          repeat (refine SX.seqK ?_; intro N hN)
          refine SX.cond (b := true) rfl (fun hb => ?_) (fun hb => ?_)
          · repeat (refine SX.seqK ?_; intro N hN)
            refine SX.draw 5 (by rw [hP]; kernel_rfl) (by kernel_rfl) ?_
            simp only [GA, ↓GB, GX, simprocAttr, d_nil, d_cons, d_move, d_assign, d_load, d_slice, d_store, d_sto, d_sam, List.take_succ_cons, List.drop_succ_cons, List.drop_zero, List.take_zero, hnt, hT , hw1, hw2, hown, List.not_mem_nil, not_false_eq_true]
            refine hN _ ?_
            clear hN N
            refine SX.ret (hK _ _ (Fin.res rfl hown ?_))
            simp only [GA, ↓GB, GX, simprocAttr, f_a, f_b, f_n, f_c, f_B, f_v, f_g, f_0, f_1, f_2, hT, hwi]
            intro w' hb
            exact ⟨_, rfl, ⟨num, kind, 0, [], s2, es, rfl, by rw [← hs2]; simp, by rw [hT0]; exact .inl rfl⟩, hb⟩
          · cases hb
        · have dL : decide ((s2.length : Int) < 8) = false := by simp; omega
          have hT1 : NW.takeF s = some (⟨num, kind, 0, s2.take 8⟩, s2.drop 8) := by
            rw [NW.takeF, h]; simp only []; rw [if_neg (by omega), hkind, hs2, hk1, hnum]; simp [NW.body]; omega
          repeat (refine SX.seqK ?_; intro N hN)
          refine SX.ops ?_
          simp only [GA, ↓GB, GX, simprocAttr, hnt, hT , wL, wl, dL]
          refine hN _ ?_
          clear hN N
          repeat (refine SX.seqK ?_; intro N hN)
          refine SX.cond (b := false) rfl (fun hb => ?_) (fun hb => ?_)
          · cases hb
          refine SX.skip ?_
          simp only [GA, ↓GB, GX, simprocAttr, hnt]
          refine hN _ ?_
          clear hN N
          repeat (refine SX.seqK ?_; intro N hN)
          refine SX.ops ?_
          simp only [GA, ↓GB, GX, simprocAttr, hnt, hT]
          repeat (refine and_mk (by omega) ?_)
          refine hN _ ?_
          clear hN N
          repeat (refine SX.seqK ?_; intro N hN)
          refine SX.draw 5 (by rw [hP]; kernel_rfl) (by kernel_rfl) ?_
          simp only [GA, ↓GB, GX, simprocAttr, d_nil, d_cons, d_move, d_assign, d_load, d_slice, d_store, d_sto, d_sam, List.take_succ_cons, List.drop_succ_cons, List.drop_zero, List.take_zero, hnt, hT , hw1, hw2, hown, List.not_mem_nil, not_false_eq_true]
          repeat (refine and_mk (by omega) ?_)
          refine hN _ ?_
          clear hN N
          refine SX.ret (hK _ _ (Fin.res rfl hown ?_))
          simp only [GA, ↓GB, GX, simprocAttr, f_a, f_b, f_n, f_c, f_B, f_v, f_g, f_0, f_1, f_2, hT, hwi]
          intro w' hb
          refine ⟨_, rfl, ⟨num, kind, 0, s2.take 8, s2.drop 8, .nilIface, ?_, by rw [List.length_drop]; omega, by rw [hT1]; exact ⟨rfl, by simp [hk1], rfl, rfl, rfl, rfl⟩⟩, hb⟩
          rw [show List.take (s2.length - 8) (List.drop 8 s2) = s2.drop 8 from List.take_of_length_le (by simp)]; rfl
      by_cases hk5 : kind = 5
      · have k0 : ((kind : Int) == 0) = false := by rw [hk5]; rfl
        have k1 : ((kind : Int) == 1) = false := by rw [hk5]; rfl
        have k5 : ((kind : Int) == 5) = true := by rw [hk5]; rfl
        have k2 : ((kind : Int) == 2) = false := by rw [hk5]; rfl
        repeat (refine SX.seqK ?_; intro N hN)
        refine SX.ops ?_
        simp only [GA, ↓GB, GX, simprocAttr, hnt, hT , k0, k1, k5, k2]
        refine hN _ ?_
        clear hN N
        repeat (refine SX.seqK ?_; intro N hN)
        refine SX.ops ?_
        simp only [GA, ↓GB, GX, simprocAttr, hnt, hT , wu64]
        refine hN _ ?_
        clear hN N
        repeat (refine SX.seqK ?_; intro N hN)
        refine SX.ops ?_
        simp only [GA, ↓GB, GX, simprocAttr, hnt, hT , k0, k1, k5, k2]
        refine hN _ ?_
        clear hN N
        repeat (refine SX.seqK ?_; intro N hN)
        refine SX.cond (b := false) rfl (fun hb => ?_) (fun hb => ?_)
        · cases hb
        refine SX.skip ?_
        simp only [GA, ↓GB, GX, simprocAttr, hnt]
        refine hN _ ?_
        clear hN N
        refine SX.seqK ?_; intro N hN
        refine SX.block ?_
        repeat (refine SX.seqK ?_; intro N hN)
        refine SX.ops ?_
        simp only [GA, ↓GB, GX, simprocAttr, hnt, hT]
        refine hN _ ?_
        clear hN N
        repeat (refine SX.seqK ?_; intro N hN)
        refine SX.cond (b := false) rfl (fun hb => ?_) (fun hb => ?_)
        · cases hb
        have wL : IntKind.u64.wrap 4 = 4 := by decide
        have wl : IntKind.u64.wrap (s2.length : Int) = (s2.length : Int) := wu64 (by omega) (by omega)
        by_cases hl : s2.length < 4
        · have dL : decide ((s2.length : Int) < 4) = true := by simp; omega
          have hT0 : NW.takeF s = none := by
            rw [NW.takeF, h]; simp only []; rw [if_neg (by omega), hkind, hs2, hk5, hnum]; simp [NW.body, hl]; try omega
          repeat (refine SX.seqK ?_; intro N hN)
          refine SX.ops ?_
          simp only [GA, ↓GB, GX, simprocAttr, hnt, hT , wL, wl, dL]
          refine hN _ ?_
          clear hN N
          repeat (refine SX.seqK ?_; intro N hN)
          refine SX.cond (b := true) rfl (fun hb => ?_) (fun hb => ?_)
          · repeat (refine SX.seqK ?_; intro N hN)
            refine SX.draw 5 (by rw [hP]; kernel_rfl) (by kernel_rfl) ?_
            simp only [GA, ↓GB, GX, simprocAttr, d_nil, d_cons, d_move, d_assign, d_load, d_slice, d_store, d_sto, d_sam, List.take_succ_cons, List.drop_succ_cons, List.drop_zero, List.take_zero, hnt, hT , hw1, hw2, hown, List.not_mem_nil, not_false_eq_true]
            refine hN _ ?_
            clear hN N
            refine SX.ret (hK _ _ (Fin.res rfl hown ?_))
            simp only [GA, ↓GB, GX, simprocAttr, f_a, f_b, f_n, f_c, f_B, f_v, f_g, f_0, f_1, f_2, hT, hwi]
            intro w' hb
            exact ⟨_, rfl, ⟨num, kind, 0, [], s2, es, rfl, by rw [← hs2]; simp, by rw [hT0]; exact .inl rfl⟩, hb⟩
          · cases hb
        · have dL : decide ((s2.length : Int) < 4) = false := by simp; omega
          have hT1 : NW.takeF s = some (⟨num, kind, 0, s2.take 4⟩, s2.drop 4) := by
            rw [NW.takeF, h]; simp only []; rw [if_neg (by omega), hkind, hs2, hk5, hnum]; simp [NW.body]; omega
          repeat (refine SX.seqK ?_; intro N hN)
          refine SX.ops ?_
          simp only [GA, ↓GB, GX, simprocAttr, hnt, hT , wL, wl, dL]
          refine hN _ ?_
          clear hN N
          repeat (refine SX.seqK ?_; intro N hN)
          refine SX.cond (b := false) rfl (fun hb => ?_) (fun hb => ?_)
          · cases hb
          refine SX.skip ?_
          simp only [GA, ↓GB, GX, simprocAttr, hnt]
          refine hN _ ?_
          clear hN N
          repeat (refine SX.seqK ?_; intro N hN)
          refine SX.ops ?_
          simp only [GA, ↓GB, GX, simprocAttr, hnt, hT]
          repeat (refine and_mk (by omega) ?_)
          refine hN _ ?_
          clear hN N
          repeat (refine SX.seqK ?_; intro N hN)
          refine SX.draw 5 (by rw [hP]; kernel_rfl) (by kernel_rfl) ?_
          simp only [GA, ↓GB, GX, simprocAttr, d_nil, d_cons, d_move, d_assign, d_load, d_slice, d_store, d_sto, d_sam, List.take_succ_cons, List.drop_succ_cons, List.drop_zero, List.take_zero, hnt, hT , hw1, hw2, hown, List.not_mem_nil, not_false_eq_true]
          repeat (refine and_mk (by omega) ?_)
          refine hN _ ?_
          clear hN N
          refine SX.ret (hK _ _ (Fin.res rfl hown ?_))
          simp only [GA, ↓GB, GX, simprocAttr, f_a, f_b, f_n, f_c, f_B, f_v, f_g, f_0, f_1, f_2, hT, hwi]
          intro w' hb
          refine ⟨_, rfl, ⟨num, kind, 0, s2.take 4, s2.drop 4, .nilIface, ?_, by rw [List.length_drop]; omega, by rw [hT1]; exact ⟨rfl, by simp [hk5], rfl, rfl, rfl, rfl⟩⟩, hb⟩
          rw [show List.take (s2.length - 4) (List.drop 4 s2) = s2.drop 4 from List.take_of_length_le (by simp)]; rfl
      have k1 : ((kind : Int) == 1) = false := by simp; omega
      have k5 : ((kind : Int) == 5) = false := by simp; omega
      by_cases hk0 : kind = 0
      · have k0 : ((kind : Int) == 0) = true := by rw [hk0]; rfl
        repeat (refine SX.seqK ?_; intro N hN)
        refine SX.ops ?_
        simp only [GA, ↓GB, GX, simprocAttr, hnt, hT , k0]
        refine hN _ ?_
        clear hN N
        repeat (refine SX.seqK ?_; intro N hN)
        refine SX.ops ?_
        simp only [GA, ↓GB, GX, simprocAttr, hnt, hT]
        refine hN _ ?_
        clear hN N
        repeat (refine SX.seqK ?_; intro N hN)
        refine SX.ops ?_
        simp only [GA, ↓GB, GX, simprocAttr, hnt, hT , k0]
        refine hN _ ?_
        clear hN N
        repeat (refine SX.seqK ?_; intro N hN)
        refine SX.cond (b := true) rfl (fun hb => ?_) (fun hb => ?_)
        rotate_left
        · cases hb
        repeat (refine SX.seqK ?_; intro N hN)
        refine SX.ops ?_
        simp only [GA, ↓GB, GX, simprocAttr, hnt, hT]
        refine CallVC.pt (l := [_, _, _]) hP (readVarint_any s2 (by omega)) rfl ?_
        cases h3 : NW.readVar s2 with
        | none =>
          have hT0 : NW.takeF s = none := by
            rw [NW.takeF, h]; simp only []; rw [if_neg (by omega), hkind, hs2, hk0]; simp [NW.body, h3]
          simp only [GA, ↓GB, GX, simprocAttr, hnt, hT, rvR_none h3]
          refine hN _ ?_
          clear hN N
          repeat (refine SX.seqK ?_; intro N hN)
          refine SX.ops ?_
          simp only [GA, ↓GB, GX, simprocAttr, hnt, hT]
          refine hN _ ?_
          clear hN N
          repeat (refine SX.seqK ?_; intro N hN)
          refine SX.cond (b := true) rfl (fun hb => ?_) (fun hb => ?_)
          · repeat (refine SX.seqK ?_; intro N hN)
            refine SX.draw 5 (by rw [hP]; kernel_rfl) (by kernel_rfl) ?_
            simp only [GA, ↓GB, GX, simprocAttr, d_nil, d_cons, d_move, d_assign, d_load, d_slice, d_store, d_sto, d_sam, List.take_succ_cons, List.drop_succ_cons, List.drop_zero, List.take_zero, hnt, hT , hw1, hw2, hown, List.not_mem_nil, not_false_eq_true]
            refine hN _ ?_
            clear hN N
            refine SX.ret (hK _ _ (Fin.res rfl hown ?_))
            simp only [GA, ↓GB, GX, simprocAttr, f_a, f_b, f_n, f_c, f_B, f_v, f_g, f_0, f_1, f_2, hT, hwi]
            intro w' hb
            exact ⟨_, rfl, ⟨num, kind, 0, [], s2, es, rfl, by omega, by rw [hT0]; exact .inl rfl⟩, hb⟩
          · cases hb
        | some vz =>
          obtain ⟨v, z2⟩ := vz
          have hz2 := NW.readVar_bd h3
          have hv := NW.readVar_lt h3
          simp only at hz2 hv
          have hdt2 : List.take (s2.length - z2) (List.drop z2 s2) = List.drop z2 s2 := List.take_of_length_le (by simp)
          simp only [GA, ↓GB, GX, simprocAttr, hnt, hT, rvR_some h3]
          refine hN _ ?_
          clear hN N
          repeat (refine SX.seqK ?_; intro N hN)
          refine SX.ops ?_
          simp only [GA, ↓GB, GX, simprocAttr, hnt, hT]
          refine hN _ ?_
          clear hN N
          repeat (refine SX.seqK ?_; intro N hN)
          refine SX.cond (b := false) rfl (fun hb => ?_) (fun hb => ?_)
          · cases hb
          refine SX.skip (hN _ ?_); clear hN N
          repeat (refine SX.seqK ?_; intro N hN)
          refine SX.ops ?_
          simp only [GA, ↓GB, GX, simprocAttr, hnt, hT , hdt2]
          repeat (refine and_mk (by omega) ?_)
          refine hN _ ?_
          clear hN N
          generalize hs3 : List.drop z2 s2 = s3
          have hs3l : s3.length + z2 = s2.length := by rw [← hs3]; simp; omega
          have wl : IntKind.u64.wrap (s3.length : Int) = (s3.length : Int) := wu64 (by omega) (by omega)
          repeat (refine SX.seqK ?_; intro N hN)
          refine SX.ops ?_
          simp only [GA, ↓GB, GX, simprocAttr, hnt, hT , k0]
          refine hN _ ?_
          clear hN N
          repeat (refine SX.seqK ?_; intro N hN)
          refine SX.cond (b := true) rfl (fun hb => ?_) (fun hb => ?_)
          rotate_left
          · cases hb
          have hT1 : NW.takeF s = some (⟨num, kind, v, []⟩, s3) := by
            rw [NW.takeF, h]; simp only []; rw [if_neg (by omega), hkind, hs2, hk0, hnum]; simp [NW.body, h3, hs3]
          have dL : decide ((s3.length : Int) < 0) = false := by simp
          have w0 : IntKind.u64.wrap 0 = 0 := by decide
          repeat (refine SX.seqK ?_; intro N hN)
          refine SX.ops ?_
          simp only [GA, ↓GB, GX, simprocAttr, hnt, hT]
          refine hN _ ?_
          clear hN N
          refine SX.seqK ?_; intro N hN
          refine SX.block ?_
          repeat (refine SX.seqK ?_; intro N hN)
          refine SX.ops ?_
          simp only [GA, ↓GB, GX, simprocAttr, hnt, hT]
          refine hN _ ?_
          clear hN N
          repeat (refine SX.seqK ?_; intro N hN)
          refine SX.cond (b := false) rfl (fun hb => ?_) (fun hb => ?_)
          · cases hb
          repeat (refine SX.seqK ?_; intro N hN)
          refine SX.ops ?_
          simp only [GA, ↓GB, GX, simprocAttr, hnt, hT , w0, wl, dL]
          refine hN _ ?_
          clear hN N
          repeat (refine SX.seqK ?_; intro N hN)
          refine SX.cond (b := false) rfl (fun hb => ?_) (fun hb => ?_)
          · cases hb
          refine SX.skip ?_
          simp only [GA, ↓GB, GX, simprocAttr, hnt]
          refine hN _ ?_
          clear hN N
          repeat (refine SX.seqK ?_; intro N hN)
          refine SX.ops ?_
          simp only [GA, ↓GB, GX, simprocAttr, hnt, hT]
          repeat (refine and_mk (by omega) ?_)
          refine hN _ ?_
          clear hN N
          repeat (refine SX.seqK ?_; intro N hN)
          refine SX.draw 5 (by rw [hP]; kernel_rfl) (by kernel_rfl) ?_
          simp only [GA, ↓GB, GX, simprocAttr, d_nil, d_cons, d_move, d_assign, d_load, d_slice, d_store, d_sto, d_sam, List.take_succ_cons, List.drop_succ_cons, List.drop_zero, List.take_zero, hnt, hT , hw1, hw2, hown, List.not_mem_nil, not_false_eq_true]
          repeat (refine and_mk (by omega) ?_)
          refine hN _ ?_
          clear hN N
          refine SX.ret (hK _ _ (Fin.res rfl hown ?_))
          simp only [GA, ↓GB, GX, simprocAttr, f_a, f_b, f_n, f_c, f_B, f_v, f_g, f_0, f_1, f_2, hT, hwi]
          intro w' hb
          refine ⟨_, rfl, ⟨num, kind, v, [], s3, .nilIface, ?_, by omega, by rw [hT1]; exact ⟨rfl, by simp [hk0], rfl, rfl, rfl, rfl⟩⟩, hb⟩
          rw [show List.take (s3.length - 0) s3 = s3 from by simp]
      have k0 : ((kind : Int) == 0) = false := by simp; omega
      by_cases hk2 : kind = 2
      · have k2 : ((kind : Int) == 2) = true := by rw [hk2]; rfl
        repeat (refine SX.seqK ?_; intro N hN)
        refine SX.ops ?_
        simp only [GA, ↓GB, GX, simprocAttr, hnt, hT , k0, k1, k5]
        refine hN _ ?_
        clear hN N
        repeat (refine SX.seqK ?_; intro N hN)
        refine SX.ops ?_
        simp only [GA, ↓GB, GX, simprocAttr, hnt, hT]
        refine hN _ ?_
        clear hN N
        repeat (refine SX.seqK ?_; intro N hN)
        refine SX.ops ?_
        simp only [GA, ↓GB, GX, simprocAttr, hnt, hT , k0, k2]
        refine hN _ ?_
        clear hN N
        repeat (refine SX.seqK ?_; intro N hN)
        refine SX.cond (b := true) rfl (fun hb => ?_) (fun hb => ?_)
        rotate_left
        · cases hb
        repeat (refine SX.seqK ?_; intro N hN)
        refine SX.ops ?_
        simp only [GA, ↓GB, GX, simprocAttr, hnt, hT]
        refine CallVC.pt (l := [_, _, _]) hP (readVarint_any s2 (by omega)) rfl ?_
        cases h3 : NW.readVar s2 with
        | none =>
          have hT0 : NW.takeF s = none := by
            rw [NW.takeF, h]; simp only []; rw [if_neg (by omega), hkind, hs2, hk2]; simp [NW.body, h3]
          simp only [GA, ↓GB, GX, simprocAttr, hnt, hT, rvR_none h3]
          refine hN _ ?_
          clear hN N
          repeat (refine SX.seqK ?_; intro N hN)
          refine SX.ops ?_
          simp only [GA, ↓GB, GX, simprocAttr, hnt, hT]
          refine hN _ ?_
          clear hN N
          repeat (refine SX.seqK ?_; intro N hN)
          refine SX.cond (b := true) rfl (fun hb => ?_) (fun hb => ?_)
          · repeat (refine SX.seqK ?_; intro N hN)
            refine SX.draw 5 (by rw [hP]; kernel_rfl) (by kernel_rfl) ?_
            simp only [GA, ↓GB, GX, simprocAttr, d_nil, d_cons, d_move, d_assign, d_load, d_slice, d_store, d_sto, d_sam, List.take_succ_cons, List.drop_succ_cons, List.drop_zero, List.take_zero, hnt, hT , hw1, hw2, hown, List.not_mem_nil, not_false_eq_true]
            refine hN _ ?_
            clear hN N
            refine SX.ret (hK _ _ (Fin.res rfl hown ?_))
            simp only [GA, ↓GB, GX, simprocAttr, f_a, f_b, f_n, f_c, f_B, f_v, f_g, f_0, f_1, f_2, hT, hwi]
            intro w' hb
            exact ⟨_, rfl, ⟨num, kind, 0, [], s2, es, rfl, by omega, by rw [hT0]; exact .inl rfl⟩, hb⟩
          · cases hb
        | some vz =>
          obtain ⟨v, z2⟩ := vz
          have hz2 := NW.readVar_bd h3
          have hv := NW.readVar_lt h3
          simp only at hz2 hv
          have hdt2 : List.take (s2.length - z2) (List.drop z2 s2) = List.drop z2 s2 := List.take_of_length_le (by simp)
          simp only [GA, ↓GB, GX, simprocAttr, hnt, hT, rvR_some h3]
          refine hN _ ?_
          clear hN N
          repeat (refine SX.seqK ?_; intro N hN)
          refine SX.ops ?_
          simp only [GA, ↓GB, GX, simprocAttr, hnt, hT]
          refine hN _ ?_
          clear hN N
          repeat (refine SX.seqK ?_; intro N hN)
          refine SX.cond (b := false) rfl (fun hb => ?_) (fun hb => ?_)
          · cases hb
          refine SX.skip (hN _ ?_); clear hN N
          repeat (refine SX.seqK ?_; intro N hN)
          refine SX.ops ?_
          simp only [GA, ↓GB, GX, simprocAttr, hnt, hT , hdt2]
          repeat (refine and_mk (by omega) ?_)
          refine hN _ ?_
          clear hN N
          generalize hs3 : List.drop z2 s2 = s3
          have hs3l : s3.length + z2 = s2.length := by rw [← hs3]; simp; omega
          have wl : IntKind.u64.wrap (s3.length : Int) = (s3.length : Int) := wu64 (by omega) (by omega)
          repeat (refine SX.seqK ?_; intro N hN)
          refine SX.ops ?_
          simp only [GA, ↓GB, GX, simprocAttr, hnt, hT , k0]
          refine hN _ ?_
          clear hN N
          repeat (refine SX.seqK ?_; intro N hN)
          refine SX.cond (b := false) rfl (fun hb => ?_) (fun hb => ?_)
          · cases hb
          repeat (refine SX.seqK ?_; intro N hN)
          refine SX.ops ?_
          simp only [GA, ↓GB, GX, simprocAttr, hnt, hT]
          refine hN _ ?_
          clear hN N
          refine SX.seqK ?_; intro N hN
          refine SX.block ?_
          repeat (refine SX.seqK ?_; intro N hN)
          refine SX.ops ?_
          simp only [GA, ↓GB, GX, simprocAttr, hnt, hT]
          refine hN _ ?_
          clear hN N
          repeat (refine SX.seqK ?_; intro N hN)
          refine SX.cond (b := false) rfl (fun hb => ?_) (fun hb => ?_)
          · cases hb
          by_cases hl : s3.length < v
          · have dL : decide ((s3.length : Int) < (v : Int)) = true := by simp; omega
            have hT0 : NW.takeF s = none := by
              rw [NW.takeF, h]; simp only []; rw [if_neg (by omega), hkind, hs2, hk2]; simp [NW.body, h3, hs3]; omega
            repeat (refine SX.seqK ?_; intro N hN)
            refine SX.ops ?_
            simp only [GA, ↓GB, GX, simprocAttr, hnt, hT , wl, dL]
            refine hN _ ?_
            clear hN N
            repeat (refine SX.seqK ?_; intro N hN)
            refine SX.cond (b := true) rfl (fun hb => ?_) (fun hb => ?_)
            · repeat (refine SX.seqK ?_; intro N hN)
              refine SX.draw 5 (by rw [hP]; kernel_rfl) (by kernel_rfl) ?_
              simp only [GA, ↓GB, GX, simprocAttr, d_nil, d_cons, d_move, d_assign, d_load, d_slice, d_store, d_sto, d_sam, List.take_succ_cons, List.drop_succ_cons, List.drop_zero, List.take_zero, hnt, hT , hw1, hw2, hown, List.not_mem_nil, not_false_eq_true]
              refine hN _ ?_
              clear hN N
              refine SX.ret (hK _ _ (Fin.res rfl hown ?_))
              simp only [GA, ↓GB, GX, simprocAttr, f_a, f_b, f_n, f_c, f_B, f_v, f_g, f_0, f_1, f_2, hT, hwi]
              intro w' hb
              exact ⟨_, rfl, ⟨num, kind, 0, [], s3, es, rfl, by omega, by rw [hT0]; exact .inl rfl⟩, hb⟩
            · cases hb
          · have dL : decide ((s3.length : Int) < (v : Int)) = false := by simp; omega
            have hT1 : NW.takeF s = some (⟨num, kind, 0, s3.take v⟩, s3.drop v) := by
              rw [NW.takeF, h]; simp only []; rw [if_neg (by omega), hkind, hs2, hk2, hnum]; simp [NW.body, h3, hs3]; omega
            repeat (refine SX.seqK ?_; intro N hN)
            refine SX.ops ?_
            simp only [GA, ↓GB, GX, simprocAttr, hnt, hT , wl, dL]
            refine hN _ ?_
            clear hN N
            repeat (refine SX.seqK ?_; intro N hN)
            refine SX.cond (b := false) rfl (fun hb => ?_) (fun hb => ?_)
            · cases hb
            refine SX.skip ?_
            simp only [GA, ↓GB, GX, simprocAttr, hnt]
            refine hN _ ?_
            clear hN N
            repeat (refine SX.seqK ?_; intro N hN)
            refine SX.ops ?_
            simp only [GA, ↓GB, GX, simprocAttr, hnt, hT]
            repeat (refine and_mk (by omega) ?_)
            refine hN _ ?_
            clear hN N
            repeat (refine SX.seqK ?_; intro N hN)
            refine SX.draw 5 (by rw [hP]; kernel_rfl) (by kernel_rfl) ?_
            simp only [GA, ↓GB, GX, simprocAttr, d_nil, d_cons, d_move, d_assign, d_load, d_slice, d_store, d_sto, d_sam, List.take_succ_cons, List.drop_succ_cons, List.drop_zero, List.take_zero, hnt, hT , hw1, hw2, hown, List.not_mem_nil, not_false_eq_true]
            repeat (refine and_mk (by omega) ?_)
            refine hN _ ?_
            clear hN N
            refine SX.ret (hK _ _ (Fin.res rfl hown ?_))
            simp only [GA, ↓GB, GX, simprocAttr, f_a, f_b, f_n, f_c, f_B, f_v, f_g, f_0, f_1, f_2, hT, hwi]
            intro w' hb
            refine ⟨_, rfl, ⟨num, kind, 0, s3.take v, s3.drop v, .nilIface, ?_, by rw [List.length_drop]; omega, by rw [hT1]; exact ⟨rfl, by simp [hk2], rfl, rfl, rfl, rfl⟩⟩, hb⟩
            rw [show List.take (s3.length - v) (List.drop v s3) = s3.drop v from List.take_of_length_le (by simp)]; simp
      have k2 : ((kind : Int) == 2) = false := by simp; omega
      have hT0 : NW.takeF s = none := by
        rw [NW.takeF, h]; simp only []; rw [if_neg (by omega), hkind, hs2]; simp [NW.body, hk0, hk1, hk2, hk5]
      repeat (refine SX.seqK ?_; intro N hN)
      refine SX.ops ?_
      simp only [GA, ↓GB, GX, simprocAttr, hnt, hT , k0, k1, k5]
      refine hN _ ?_
      clear hN N
      repeat (refine SX.seqK ?_; intro N hN)
      refine SX.ops ?_
      simp only [GA, ↓GB, GX, simprocAttr, hnt, hT]
      refine hN _ ?_
      clear hN N
      repeat (refine SX.seqK ?_; intro N hN)
      refine SX.ops ?_
      simp only [GA, ↓GB, GX, simprocAttr, hnt, hT , k0, k2]
      refine hN _ ?_
      clear hN N
      repeat (refine SX.seqK ?_; intro N hN)
      refine SX.cond (b := false) rfl (fun hb => ?_) (fun hb => ?_)
      · cases hb
      refine SX.skip ?_
      simp only [GA, ↓GB, GX, simprocAttr, hnt]
      refine hN _ ?_
      clear hN N
      refine SX.seqK ?_; intro N hN
      refine SX.block ?_
      repeat (refine SX.seqK ?_; intro N hN)
      refine SX.ops ?_
      simp only [GA, ↓GB, GX, simprocAttr, hnt, hT]
      refine hN _ ?_
      clear hN N
      repeat (refine SX.seqK ?_; intro N hN)
      refine SX.cond (b := true) rfl (fun hb => ?_) (fun hb => ?_)
      · repeat (refine SX.seqK ?_; intro N hN)
        refine SX.draw 5 (by rw [hP]; kernel_rfl) (by kernel_rfl) ?_
        simp only [GA, ↓GB, GX, simprocAttr, d_nil, d_cons, d_move, d_assign, d_load, d_slice, d_store, d_sto, d_sam, List.take_succ_cons, List.drop_succ_cons, List.drop_zero, List.take_zero, hnt, hT , hw1, hw2, hown, List.not_mem_nil, not_false_eq_true]
        refine hN _ ?_
        clear hN N
        refine SX.ret (hK _ _ (Fin.res rfl hown ?_))
        simp only [GA, ↓GB, GX, simprocAttr, f_a, f_b, f_n, f_c, f_B, f_v, f_g, f_0, f_1, f_2, hT, hwi]
        intro w' hb
        exact ⟨_, rfl, ⟨num, kind, 0, [], s2, ew, rfl, by omega, by rw [hT0]; exact .inr rfl⟩, hb⟩
      · cases hb
end Go.Proofs.YtbdacbcpniegiaaDoor
namespace Go.Proofs.YtbdacbcpniegiaaDoor
open Go Go.RowKit Go.Shelf Go.Proofs
open Go.Sx (B)
attribute [local go_sem] Oper.semAt_some
inductive It where
  | f (x : NW.Fld)
  | bad (num kind : Int) (n : Nat) (fs : List UInt8) (p : Int) (short : Bool)
structure Errs (w : World) (a0 a1 : Addr) : Prop where
  c0 : w.cell? ⟨2, 0, none⟩ = some (.iface 253 (.pointer (some a0)))
  c1 : w.cell? ⟨3, 0, none⟩ = some (.iface 253 (.pointer (some a1)))
  ne : a0 ≠ a1
  h0 : ∃ cs t, w.heap[a0.block]? = some (.cells cs t (0, 0))
  h1 : ∃ cs t, w.heap[a1.block]? = some (.cells cs t (0, 0))
theorem Errs.below {w w' : World} {a0 a1 : Addr} (h : Errs w a0 a1) (hb : Below w.heap.size w w') : Errs w' a0 a1 := by
  obtain ⟨c0, t0, h0⟩ := h.h0
  obtain ⟨c1, t1, h1⟩ := h.h1
  refine ⟨?_, ?_, h.ne, ⟨c0, t0, ?_⟩, ⟨c1, t1, ?_⟩⟩
  · rw [hb.cell (p := ⟨2, 0, none⟩) (World.block_lt_of_cell? w _ h.c0)]; exact h.c0
  · rw [hb.cell (p := ⟨3, 0, none⟩) (World.block_lt_of_cell? w _ h.c1)]; exact h.c1
  · rw [hb.block _ (Array.getElem?_eq_some_iff.1 h0).1]; exact h0
  · rw [hb.block _ (Array.getElem?_eq_some_iff.1 h1).1]; exact h1
theorem Errs.wire {w : World} {a0 a1 : Addr} (h : Errs w a0 a1) : Wire w (.iface 253 (.pointer (some a0))) (.iface 253 (.pointer (some a1))) := ⟨h.c0, h.c1, rfl, rfl⟩
def It.encs (a0 a1 : Addr) : It → Array Value
  | .f x => #[.agg #[.int .i64 x.num, .int .i64 x.kind, .int .u64 x.n, .string (B x.s)], .nilIface]
  | .bad num kind n fs p short => #[.agg #[.int .i64 num, .int .i64 kind, .int .u64 n, .string (B fs)], .iface 229 (.agg #[.int .i64 p, .iface 253 (.pointer (some (if short then a0 else a1)))])]
def It.Ok (m : Nat) : It → Prop
  | .f x => x.s.length ≤ m
  | .bad .. => True
theorem takeF_slen {p : List UInt8} {f : NW.Fld} {r : List UInt8} (h : NW.takeF p = some (f, r)) : f.s.length ≤ p.length := by
  unfold NW.takeF at h
  split at h
  · cases h
  · rename_i tag z hr
    split at h
    · cases h
    · split at h
      · cases h
      · rename_i n size r' hb
        split at h
        · cases h
          have := NW.body_len hb
          simp only [List.length_take, List.length_drop] at this ⊢
          omega
        · cases h
structure Stab (b : Nat) (j : World → Prop) : Prop where
  below : ∀ W W', j W → Below W.heap.size W W' → j W'
  cell : ∀ W v, j W → j (W.setCell ⟨b, 0, none⟩ v)
theorem cell_of_heap {W : World} {b : Nat} {v : Value} {t : TypeId} {r : Nat × Nat} (h : W.heap[b]? = some (.cells #[v] t r)) : W.cell? ⟨b, 0, none⟩ = some v := by
  rw [cell_of_row W b 0 #[v] t r h]; rfl
theorem frozen_of_heap {W : World} {b : Nat} {cs : Array Value} {t : TypeId} (h : W.heap[b]? = some (.cells cs t (0, 0))) : W.frozen? ⟨b, 0, none⟩ = false := by
  simp [World.frozen?, h]
theorem setCell_one {W : World} {b : Nat} {u v : Value} {t : TypeId} (h : W.heap[b]? = some (.cells #[u] t (0, 0))) : (W.setCell ⟨b, 0, none⟩ v).heap[b]? = some (.cells #[v] t (0, 0)) := by
  simp only [World.setCell, Array.getElem?_modify, h]; simp
def leftS (b : Nat) (W : World) : Nat := match W.cell? ⟨b, 0, none⟩ with | some (.string s) => s.size | _ => 0
theorem fields1_any (w0 : World) (a0 a1 : Addr) (hE : Errs w0 a0 a1) (s0 : List UInt8) (hs : s0.length ≤ 1152921504606846976) (l b n : Nat) (hb : w0.heap.size ≤ b) (J Jx : List It → World → Prop)
    (hJ : ∀ pre, Stab b (J pre)) (hJw : ∀ pre W, J pre W → Below w0.heap.size w0 W)
    (hY : ∀ pre x W, J pre W → pre.length < s0.length → It.Ok s0.length x → YieldAt Fence.wide (n - 1) Tryd.prog l (It.encs a0 a1 x) W fun e W' => (e = .returned (.bool true) ∧ J (pre ++ [x]) W' ∧ W'.heap[b]? = W.heap[b]?) ∨ (e = .returned (.bool false) ∧ Jx (pre ++ [x]) W'))
    (W : World) (hc : W.heap[b]? = some (.cells #[.string (B s0)] 9 (0, 0))) (h0 : J [] W) :
    CallsIn Fence.wide n Tryd.prog 163 #[.func (.yield l) #[] #[], .pointer (some ⟨b, 0, none⟩)] W fun e W' => (∃ v, e = .returned v) ∧
      ((∃ fs, NW.parse s0 = some fs ∧ J (fs.map It.f) W') ∨ (NW.parse s0 = none ∧ ∃ pre nm k nn fs p sh, J (pre ++ [It.bad nm k nn fs p sh]) W') ∨ ∃ pre x, Jx (pre ++ [x]) W' ∧ (NW.parse s0 = none ∨ ∃ f, x = .f f)) := by
  refine callsIn_of_wp Tryd.func163 rfl trivial ?_ rfl
  simp only [Tryd.ntmps163, List.size_toArray, List.length_cons, List.length_nil, Nat.reduceAdd, Nat.reduceSub, Array.replicate_succ, Array.replicate_zero, List.push_toArray, List.append_toArray, List.nil_append, List.cons_append]
  have hcc := cell_of_heap hc
  gi_wp2
  gi_loopw [4] (fun q wr => ∃ (pre : List NW.Fld) (rest : List UInt8), NW.parse s0 = (NW.parse rest).map (pre ++ ·) ∧ wr.heap[b]? = some (.cells #[.string (B rest)] 9 (0, 0)) ∧ J (pre.map It.f) wr ∧ pre.length + rest.length ≤ s0.length) (fun q wr => leftS b wr)
  case atStart => exact ⟨[], s0, by simp, hc, h0, by simp⟩
  case round =>
    obtain ⟨pre, rest, hp, hcr, hJr, hlr⟩ := hrel
    have hcc := cell_of_heap hcr
    have hE' := hE.below (hJw _ _ hJr)
    by_cases he : rest = []
    · subst he
      gi_wp2
      · exact absurd (show (!(B []).toList.isEmpty) = true by assumption) (by rw [Go.Sx.B_toList]; decide)
      · go_end0
        exact ⟨⟨_, rfl⟩, .inl ⟨pre, by rw [hp, NW.parse_nil]; simp, hJr⟩⟩
    · have hpos : (pre.map It.f).length < s0.length := by rw [List.length_map]; have := List.length_pos_iff.2 he; omega
      have hT := take_any rest (by omega) wr _ _ hE'.wire
      have hne : (B rest).toList.isEmpty = false := by rw [Go.Sx.B_toList]; cases rest with | nil => exact absurd rfl he | cons _ _ => rfl
      cases ht : NW.takeF rest with
      | none =>
        have hP0 : NW.parse s0 = none := by rw [hp, NW.parse_none he ht]; rfl
        gi_wp2_with (refine ⟨trivial, fun h => (by cases h), ?_⟩; refine (callsIn_wide.2 hT).mono ?_; rintro e W2 ⟨v, rfl, ⟨num, kind, nn, fs, r, ev, rfl, hrl, hm⟩, hb2⟩; rw [ht] at hm; have hcc2 : W2.cell? ⟨b, 0, none⟩ = some (.string (B rest)) := (hb2.cell (p := ⟨b, 0, none⟩) (World.block_lt_of_cell? wr _ hcc)).trans hcc; have hlt2 := World.block_lt_of_cell? W2 _ hcc2; have hJ3 := (hJ (pre.map It.f)).below _ _ ((hJ _).below _ _ hJr hb2) ((Below.refl W2.heap.size W2).alloc (Nat.le_refl _) (Obj.cells #[Value.int IntKind.i64 num, Value.int IntKind.i64 kind, Value.int IntKind.u64 ↑nn, Value.string (B fs)] 143)); rcases hm with rfl | rfl; (focus obtain ⟨fn, tmps, assign, body, hy, hR⟩ := hY _ (It.bad num kind nn fs (wrap64 (((B s0).size : Int) - ((B rest).size : Int))) true) _ hJ3 hpos trivial; dsimp only [It.encs] at hy; simp only [if_true] at hy); rotate_left; (focus obtain ⟨fn, tmps, assign, body, hy, hR⟩ := hY _ (It.bad num kind nn fs (wrap64 (((B s0).size : Int) - ((B rest).size : Int))) false) _ hJ3 hpos trivial; dsimp only [It.encs] at hy; simp only [Bool.false_eq_true, if_false] at hy))
        all_goals (refine ⟨fun h => (by cases h), hR.mono ?_⟩; rintro e W' (⟨rfl, hJ', hk⟩ | ⟨rfl, hJx'⟩))
        all_goals (gi_wp2; refine bodyPost_ret (results_none rfl _ _ _) rfl ?_)
        all_goals first
          | exact ⟨⟨_, rfl⟩, .inr (.inl ⟨hP0, _, _, _, _, _, _, _, hJ'⟩)⟩
          | exact ⟨⟨_, rfl⟩, .inr (.inr ⟨_, _, hJx', .inl hP0⟩)⟩
      | some fr =>
        obtain ⟨f, r'⟩ := fr
        have hP1 := NW.parse_some ht
        have hl := NW.takeF_len ht
        have hfl := takeF_slen ht
        gi_wp2_with (refine ⟨trivial, fun h => (by cases h), ?_⟩; refine (callsIn_wide.2 hT).mono ?_; rintro e W2 ⟨v, rfl, ⟨num, kind, nn, fs, r, ev, rfl, hrl, hm⟩, hb2⟩; rw [ht] at hm; have hcc2 : W2.cell? ⟨b, 0, none⟩ = some (.string (B rest)) := (hb2.cell (p := ⟨b, 0, none⟩) (World.block_lt_of_cell? wr _ hcc)).trans hcc; have hlt2 := World.block_lt_of_cell? W2 _ hcc2; obtain ⟨rfl, rfl, rfl, rfl, rfl, rfl⟩ := hm; have hJ3 := (hJ (pre.map It.f)).below _ _ ((hJ _).below _ _ hJr hb2) ((Below.refl W2.heap.size W2).alloc (Nat.le_refl _) (Obj.cells #[Value.int IntKind.i64 ↑f.num, Value.int IntKind.i64 ↑f.kind, Value.int IntKind.u64 ↑f.n, Value.string (B f.s)] 143)); obtain ⟨fn, tmps, assign, body, hy, hR⟩ := hY _ (It.f f) _ hJ3 hpos (show f.s.length ≤ s0.length by omega); dsimp only [It.encs] at hy)
        refine ⟨fun h => (by cases h), hR.mono ?_⟩
        rintro e W' (⟨rfl, hJ', hk⟩ | ⟨rfl, hJx'⟩)
        · have hc3 : W'.heap[b]? = some (.cells #[.string (B rest)] 9 (0, 0)) := by
            rw [hk, Below.heap_alloc _ _ _ hlt2, hb2.block _ (Array.getElem?_eq_some_iff.1 hcr).1]; exact hcr
          have hcc3 := cell_of_heap hc3
          have hf3 := frozen_of_heap hc3
          have hs3 := setCell_one (v := .string (B r)) hc3
          have hl1 := cell_of_heap hs3
          gi_wp2
          refine ⟨⟨pre ++ [f], r, ?_, hs3, ?_, by simp; omega⟩, ?_⟩
          · rw [hp, hP1]; cases NW.parse r <;> simp
          · rw [List.map_append]; exact (hJ _).cell _ _ hJ'
          · unfold leftS
            rw [hl1, hcc]
            show (B r).size < (B rest).size
            rw [Go.Sx.B_size, Go.Sx.B_size]; omega
        · gi_wp2
          refine bodyPost_ret (results_none rfl _ _ _) rfl ?_
          exact ⟨⟨_, rfl⟩, .inr (.inr ⟨_, _, hJx', .inr ⟨f, rfl⟩⟩)⟩
end Go.Proofs.YtbdacbcpniegiaaDoor
namespace Go.Proofs.YtbdacbcpniegiaaDoor
open Go Go.RowKit Go.Shelf Go.Proofs
open Go.Sx (B)
structure StabL (B b : Nat) (j : World → Prop) : Prop where
  stab : Stab b j
  put : ∀ W k o o', B ≤ k → W.heap[k]? = some o → o.isCells = false → j W → j (W.putObj k o')
def postR {α : Type} (b : Nat) (I Ix : List α → World → Prop) (xs : List α) (W : World) : Exit → Act → World → Prop
  | .normal, _, W' => KeepsOthers W W' ∧ W'.heap[b]? = W.heap[b]? ∧ I xs W'
  | .ret, _, W' => KeepsOthers W W' ∧ Ix xs W'
  | _, _, _ => False
theorem wp_rangeS {α : Type} {n : Nat} {P : Program} {g : Operand} {ps : Array Tmp} {assign body : Code} {Q : Exit → Act → World → Prop} {a : Act} {w : World} {gf b : Nat} {lb : Array Value}
    (hg : a.eval g = .func (.func gf) #[] lb) (eg : ∀ args w, (callFunc gf args).run P w = .ok (.enter gf args) w) {encs : α → Array Value} (hps : ∀ x, (encs x).size = ps.size) (hb : b < w.heap.size)
    (I Ix : List α → World → Prop) (hI : ∀ pre, StabL w.heap.size b (I pre)) (hIx : ∀ pre, StabL w.heap.size b (Ix pre)) (h0 : I [] w) {S Sp : List α → Prop} {N : Nat} {G : α → Prop}
    (hit : ∀ (l : Nat) (J Jx : List α → World → Prop), (∀ pre, Stab b (J pre)) → (∀ pre W, J pre W → I pre W) →
      (∀ pre x W, J pre W → pre.length < N → G x → YieldAt Fence.wide (n - 1 - 1) P l (encs x) W fun e W' => (e = .returned (.bool true) ∧ J (pre ++ [x]) W' ∧ W'.heap[b]? = W.heap[b]?) ∨ (e = .returned (.bool false) ∧ Jx (pre ++ [x]) W')) →
      ∀ W, W.heap[b]? = w.heap[b]? → J [] W → CallsIn Fence.wide (n - 1) P gf (#[.func (.yield l) #[] #[]] ++ lb) W fun e W' => (∃ v, e = .returned v) ∧ ((∃ xs, S xs ∧ J xs W') ∨ ∃ xs, Sp xs ∧ Jx xs W'))
    (hround : ∀ (l : Nat) (pre : List α) (x : α) (W : World), I pre W → pre.length < N → G x → w.heap.size ≤ l → (∃ o : Obj, W.heap[l]? = some o ∧ o.isCells = false) → assign.wpIn (Fence.wide.inRound l) (n - 1 - 1) P
      (Exit.then (fun a₁ W1 => Below W.heap.size W W1 ∧ ∀ W2, W2.heap.size = W1.heap.size → (∀ k, k ≠ l → W2.heap[k]? = W1.heap[k]?) → I pre W2 → body.wpIn (Fence.wide.inRound l) (n - 1 - 1) P (postR b I Ix (pre ++ [x]) W2) a₁ W2) (fun _ _ _ => False))
      { tmps := (ps.zip (encs x)).foldl (fun t (p, v) => t.setIfInBounds p v) a.tmps, defers := [] } W)
    (hdone : ∀ xs W, S xs → I xs W → W.heap[w.heap.size]? = some (.deferred (some [])) → Q .normal { a with defers := { target := .collected w.heap.size, args := #[] } :: a.defers } W)
    (hstop : ∀ xs W, Sp xs → Ix xs W → W.heap[w.heap.size]? = some (.deferred (some [])) → Q .ret { a with defers := { target := .collected w.heap.size, args := #[] } :: a.defers } W) :
    (Code.rangeFunc g ps assign body).wpIn Fence.wide n P Q a w := by
  refine wpIn_rangeFunc fun fn _ => ?_
  obtain ⟨rec, hrec⟩ : ∃ rec : LoopState → Option Code → Loop, rec = fun st pe => { state := st, pending := pe, fn, tmps := a.tmps, params := ps, assign, body, defers := w.heap.size } := ⟨_, rfl⟩
  obtain ⟨W1, hW1⟩ : ∃ W1, (w.alloc (.deferred (some []))).alloc (.loop (rec .ready none)) = W1 := ⟨_, rfl⟩
  have hbel : Below w.heap.size w W1 := by rw [← hW1]; exact ((Below.refl _ w).alloc (Nat.le_refl _) _).alloc (by simp) _
  have hrec1 : W1.heap[w.heap.size + 1]? = some (.loop (rec .ready none)) := by
    have := World.alloc_heap_new (w.alloc (.deferred (some []))) (.loop (rec .ready none))
    rw [World.size_alloc] at this
    rw [← hW1]; exact this
  have hdef1 : W1.heap[w.heap.size]? = some (.deferred (some [])) := by rw [← hW1, Below.heap_alloc _ _ _ (by simp)]; exact World.alloc_heap_new w _
  have hstab : ∀ (j : World → Prop) (o1 o2 : Obj), Stab b j → Stab b (fun W => j W ∧ W.heap[w.heap.size + 1]? = some o1 ∧ W.heap[w.heap.size]? = some o2) := fun j o1 o2 hj =>
    ⟨fun W W' h hB => ⟨hj.below W W' h.1 hB, (hB.block _ (Array.getElem?_eq_some_iff.1 h.2.1).1).trans h.2.1, (hB.block _ (Array.getElem?_eq_some_iff.1 h.2.2).1).trans h.2.2⟩,
      fun W v h => ⟨hj.cell W v h.1, (Below.heap_setCell W ⟨b, 0, none⟩ v _ (by show _ ≠ b; omega)).trans h.2.1, (Below.heap_setCell W ⟨b, 0, none⟩ v _ (by show _ ≠ b; omega)).trans h.2.2⟩⟩
  refine ⟨w.heap.size + 1, [{ target := .collected w.heap.size, args := #[] }], W1, { target := .fn (.func gf) lb, args := #[.func (.yield (w.heap.size + 1)) #[] #[]] }, W1, gf, #[.func (.yield (w.heap.size + 1)) #[] #[]] ++ lb, W1, ?_, ?_, (fun _ _ => trivial), ?_, (fun h => by cases h), ?_⟩
  · rw [← hW1, hrec]; exact run_enterLoop_outer _ _ _ _ _
  · simp only [resolve, hg]
    simp [go_sem]
  · simp [invoke, go_sem, eg]
  refine (hit (w.heap.size + 1) (fun pre W => I pre W ∧ W.heap[w.heap.size + 1]? = some (.loop (rec .ready none)) ∧ W.heap[w.heap.size]? = some (.deferred (some [])))
    (fun pre W => Ix pre W ∧ W.heap[w.heap.size + 1]? = some (.loop (rec .done (some .ret))) ∧ W.heap[w.heap.size]? = some (.deferred (some [])))
    (fun pre => hstab _ _ _ (hI pre).stab) (fun pre W h => h.1) (fun pre x W h hN hG => ?_) W1 (hbel.block _ hb) ⟨(hI []).stab.below w W1 h0 hbel, hrec1, hdef1⟩).mono ?_
  · obtain ⟨hi, hl, hd⟩ := h
    have hlt : w.heap.size + 1 < W.heap.size := (Array.getElem?_eq_some_iff.1 hl).1
    have hy := run_yield (P := P) (args := encs x) hl (by rw [hrec]; exact hps x)
    rw [hrec] at hy
    refine ⟨fn, _, assign, body, hy, roundIn_of_wpIn trivial (wpIn_mono (hround _ pre x W hi hN hG (by omega) ⟨_, hl, rfl⟩) ?_)⟩
    intro e a1 W2 he
    cases e with
    | normal =>
      obtain ⟨hB, hbody⟩ := he
      have hl2 : W2.heap[w.heap.size + 1]? = some (.loop (rec .ready none)) := (hB.block _ hlt).trans hl
      have hd2 : W2.heap[w.heap.size]? = some (.deferred (some [])) := (hB.block _ (by omega)).trans hd
      have hlt2 := (Array.getElem?_eq_some_iff.1 hl2).1
      refine ⟨_, run_beginRound hl2 (by rw [hrec]), ?_⟩
      obtain ⟨W3, hW3⟩ : ∃ W3, W2.putObj (w.heap.size + 1) (.loop { rec .ready none with state := .busy }) = W3 := ⟨_, rfl⟩
      have hl3 : W3.heap[w.heap.size + 1]? = some (.loop { rec .ready none with state := .busy }) := by rw [← hW3]; exact World.putObj_heap_same hlt2
      have ho3 : ∀ k, k ≠ w.heap.size + 1 → W3.heap[k]? = W2.heap[k]? := fun k hk => by rw [← hW3]; exact World.putObj_heap_other hk
      have hi3 : I pre W3 := by rw [← hW3]; exact (hI pre).put _ _ _ _ (by omega) hl2 rfl ((hI pre).stab.below _ _ hi hB)
      rw [hW3]
      refine wpIn_mono (hbody W3 (by rw [← hW3]; simp) ho3 hi3) ?_
      have fin : ∀ (jump : Option Code) (W4 : World), KeepsOthers W3 W4 →
          (Instr.endRound (w.heap.size + 1) jump).run P W4 = .ok (.bool jump.isNone) (W4.putObj (w.heap.size + 1) (.loop (rec (if jump.isNone then .ready else .done) jump))) ∧
          W4.heap[w.heap.size + 1]? = some (.loop { rec .ready none with state := .busy }) ∧
          (W4.putObj (w.heap.size + 1) (.loop (rec (if jump.isNone then .ready else .done) jump))).heap[w.heap.size + 1]? = some (.loop (rec (if jump.isNone then .ready else .done) jump)) ∧
          (W4.putObj (w.heap.size + 1) (.loop (rec (if jump.isNone then .ready else .done) jump))).heap[w.heap.size]? = some (.deferred (some [])) := fun jump W4 hk => by
        have hl4 := hk.same _ _ hl3 rfl
        have hd4 := hk.same _ _ ((ho3 _ (by omega)).trans hd2) rfl
        have := run_endRound (P := P) jump hl4
        rw [hrec] at this ⊢
        exact ⟨this, by rw [hrec] at hl4; exact hl4, World.putObj_heap_same (Array.getElem?_eq_some_iff.1 hl4).1, (World.putObj_heap_other (by omega)).trans hd4⟩
      rintro e a4 W4 hp
      cases e with
      | normal =>
        obtain ⟨hk, hb4, hi4⟩ := hp
        obtain ⟨hr, hl4, hl5, hd5⟩ := fin none W4 hk
        refine ⟨_, _, hr, .inl ⟨rfl, ⟨(hI _).put _ _ _ _ (by omega) hl4 rfl hi4, hl5, hd5⟩, ?_⟩⟩
        rw [World.putObj_heap_other (by omega), hb4, ho3 _ (by omega)]
        exact hB.block _ (by omega)
      | ret =>
        obtain ⟨hk, hi4⟩ := hp
        obtain ⟨hr, hl4, hl5, hd5⟩ := fin (some .ret) W4 hk
        exact ⟨_, _, hr, .inr ⟨rfl, (hIx _).put _ _ _ _ (by omega) hl4 rfl hi4, hl5, hd5⟩⟩
      | exit id => exact hp.elim
      | goto t => exact hp.elim
      | panic ch => exact hp.elim
      | outgrown => exact hp.elim
    | ret => exact he.elim
    | exit id => exact he.elim
    | goto t => exact he.elim
    | panic ch => exact he.elim
    | outgrown => exact he.elim
  · rintro e W2 ⟨⟨v, rfl⟩, (⟨xs, hS, hi, hl, hd⟩ | ⟨xs, hS, hi, hl, hd⟩)⟩
    · have := run_endLoop (P := P) hl (by rw [hrec]; simp)
      rw [hrec] at this
      exact ⟨none, _, this, hdone xs _ hS ((hI _).put _ _ _ _ (by omega) hl rfl hi) ((World.putObj_heap_other (by omega)).trans hd)⟩
    · have := run_endLoop (P := P) hl (by rw [hrec]; simp)
      rw [hrec] at this
      exact ⟨some .ret, _, this, wpIn_ret (hstop xs _ hS ((hIx _).put _ _ _ _ (by omega) hl rfl hi) ((World.putObj_heap_other (by omega)).trans hd))⟩
end Go.Proofs.YtbdacbcpniegiaaDoor
namespace Go.Proofs.YtbdacbcpniegiaaDoor
open Go Go.RowKit Go.Shelf Go.Proofs
open Go.Sx (B)
attribute [local go_sem] Oper.semAt_some
def cloneRen : Ren := ⟨fun | 25 => 165 | n => n, fun | 37 => 58 | 47 => 192 | n => n, fun n => n⟩
theorem layClone : LaysPu.n25 Tryd.prog cloneRen := {
  mixed := by kernel_rfl, f25 := Tryd.func165.trans (congrArg some (by kernel_rfl)),
  t0 := Tryd.underlying0, a0 := Tryd.isAgg0, z0 := Tryd.sizeOf0, v0 := Tryd.zeroValue0, i0 := by kernel_rfl,
  t3 := Tryd.underlying3, a3 := Tryd.isAgg3, z3 := Tryd.sizeOf3, v3 := Tryd.zeroValue3, i3 := by kernel_rfl,
  t4 := Tryd.underlying4, a4 := Tryd.isAgg4, z4 := Tryd.sizeOf4, v4 := Tryd.zeroValue4, i4 := by kernel_rfl,
  t5 := Tryd.underlying5, a5 := Tryd.isAgg5, z5 := Tryd.sizeOf5, v5 := Tryd.zeroValue5, i5 := by kernel_rfl,
  t9 := Tryd.underlying9, a9 := Tryd.isAgg9, z9 := Tryd.sizeOf9, v9 := Tryd.zeroValue9, i9 := by kernel_rfl,
  t37 := Tryd.underlying58, a37 := Tryd.isAgg58, z37 := Tryd.sizeOf58, v37 := Tryd.zeroValue58, i37 := by kernel_rfl,
  t47 := Tryd.underlying192, a47 := Tryd.isAgg192, z47 := Tryd.sizeOf192, v47 := Tryd.zeroValue192, i47 := by kernel_rfl }
theorem clone_any (s : ByteArray) (hs : s.size ≤ 281474976710656) (w : World) : Calls Tryd.prog 143 #[.string s] w fun e w' => e = .returned (.string s) ∧ Below w.heap.size w w' := by
  go_enter Tryd.func143, Tryd.ntmps143
  go_wp2_with (go_at_call 165; refine (AnyPu.stringslite_Clone layClone s _ hs).mono ?_; rintro e w' ⟨rfl, hb⟩)
  go_ret
  exact ⟨rfl, hb⟩
theorem fields_any (s : ByteArray) (w : World) : Calls Tryd.prog 142 #[.string s] w fun e w' => e = .returned (.func (.func 163) #[] #[.pointer (some ⟨w.heap.size, 0, none⟩)]) ∧ w' = w.alloc (.cells #[.string s] 9) := by
  go_enter Tryd.func142, Tryd.ntmps142
  go_wp2
  go_ret
  exact ⟨rfl, rfl⟩
end Go.Proofs.YtbdacbcpniegiaaDoor
namespace Go.Proofs.YtbdacbcpniegiaaDoor
open Go Go.RowKit Go.Shelf Go.Proofs
open Go.Sx (B)
attribute [local go_sem] Oper.semAt_some
def fcells (f : NW.Fld) : List Value := [.int .i64 f.num, .int .i64 f.kind, .int .u64 f.n, .string (B f.s)]
def flds (l : List NW.Fld) : List Value := l.flatMap fcells
theorem flds_append (a b : List NW.Fld) : flds (a ++ b) = flds a ++ flds b := by simp [flds]
theorem ownsRow_heap {W W' : World} {n₀ sz n : Nat} {e : TypeId} {v : Value} {xs : List Value} (h : W.ownsRow n₀ e sz v n xs) (hg : ∀ (g : Nat) (o : Obj), n₀ ≤ g → W.heap[g]? = some o → o.isCells = true → W'.heap[g]? = W.heap[g]?) : W'.ownsRow n₀ e sz v n xs := by
  obtain ⟨h1, h2⟩ := h
  refine ⟨h1, ?_⟩
  rcases h2 with h2 | ⟨g, cap, cur, e1, hle, hh, rest⟩
  · exact .inl h2
  · exact .inr ⟨g, cap, cur, e1, hle, by rw [hg g _ hle hh rfl]; exact hh, rest⟩
theorem ownsRow_not {W : World} {n₀ sz n k : Nat} {e : TypeId} {v : Value} {xs : List Value} (h : W.ownsRow n₀ e sz v n xs) (hk : k < n₀) : v.ownBlock ≠ some k := by
  obtain ⟨h1, h2⟩ := h
  rcases h2 with ⟨rfl, _⟩ | ⟨g, cap, cur, rfl, hle, hh, rest⟩
  · simp [Value.ownBlock]
  · simp [Value.ownBlock]; omega
theorem keeps_below {W W' : World} (h : Below W.heap.size W W') : KeepsOthers W W' := ⟨h.size, fun k o hk _ => (h.block k (Array.getElem?_eq_some_iff.1 hk).1).trans hk⟩
structure PI (w : World) (n : Nat) (W : World) : Prop where
  r2 : W.heap[n]? = some (.cells #[.slice none 0 0] 171 (0, 0))
  r3 : W.heap[n + 1]? = some (.cells #[.bool false] 4 (0, 0))
  low : Below n w W
structure PO (w : World) (n : Nat) (fs : List NW.Fld) (W : World) : Prop extends PI w n W where
  out : ∃ v, W.heap[n + 2]? = some (.cells #[v] 171 (0, 0)) ∧ W.ownsRow (n + 4) 143 4 v fs.length (flds fs)
theorem PI.stab {w : World} {n : Nat} : StabL (n + 4) (n + 3) (PI w n) :=
  ⟨⟨fun W W' h hB => ⟨(hB.block _ (Array.getElem?_eq_some_iff.1 h.r2).1).trans h.r2, (hB.block _ (Array.getElem?_eq_some_iff.1 h.r3).1).trans h.r3, h.low.trans (hB.mono (Nat.le_of_lt (Array.getElem?_eq_some_iff.1 h.r2).1))⟩,
    fun W v h => ⟨(Below.heap_setCell W ⟨n + 3, 0, none⟩ v _ (by show _ ≠ n + 3; omega)).trans h.r2, (Below.heap_setCell W ⟨n + 3, 0, none⟩ v _ (by show _ ≠ n + 3; omega)).trans h.r3, h.low.setCell (p := ⟨n + 3, 0, none⟩) (by show n ≤ n + 3; omega) _⟩⟩,
   fun W k o o' hk ho hc h => ⟨(World.putObj_heap_other (by omega)).trans h.r2, (World.putObj_heap_other (by omega)).trans h.r3, h.low.trans ((Below.refl n W).grown (grownBy_putObj' W k o') (Nat.le_of_lt (Array.getElem?_eq_some_iff.1 h.r2).1) (fun j e => by cases e; omega))⟩⟩
theorem PO.stab {w : World} {n : Nat} {fs : List NW.Fld} : StabL (n + 4) (n + 3) (PO w n fs) :=
  ⟨⟨fun W W' h hB => ⟨PI.stab.stab.below W W' h.toPI hB, by
      obtain ⟨v, h1, h2⟩ := h.out
      exact ⟨v, (hB.block _ (Array.getElem?_eq_some_iff.1 h1).1).trans h1, ownsRow_heap h2 fun g o _ ho _ => hB.block g (Array.getElem?_eq_some_iff.1 ho).1⟩⟩,
    fun W v h => ⟨PI.stab.stab.cell W v h.toPI, by
      obtain ⟨u, h1, h2⟩ := h.out
      exact ⟨u, (Below.heap_setCell W ⟨n + 3, 0, none⟩ v _ (by show _ ≠ n + 3; omega)).trans h1, ownsRow_heap h2 fun g o hg _ _ => Below.heap_setCell W ⟨n + 3, 0, none⟩ v g (by show g ≠ n + 3; omega)⟩⟩⟩,
   fun W k o o' hk ho hc h => ⟨PI.stab.put W k o o' hk ho hc h.toPI, by
      obtain ⟨u, h1, h2⟩ := h.out
      exact ⟨u, (World.putObj_heap_other (by omega)).trans h1, ownsRow_heap h2 fun g ob hg hog hcg => World.putObj_heap_other (fun e => by subst e; rw [ho] at hog; cases hog; rw [hc] at hcg; cases hcg)⟩⟩⟩
theorem frozen_at {W : World} {b o : Nat} {cs : Array Value} {t : TypeId} (h : W.heap[b]? = some (.cells cs t (0, 0))) : W.frozen? ⟨b, o, none⟩ = false := by
  simp [World.frozen?, h]
theorem setCell_row {W : World} {b o : Nat} {v : Value} {cs : Array Value} {t : TypeId} (h : W.heap[b]? = some (.cells cs t (0, 0))) : (W.setCell ⟨b, o, none⟩ v).heap[b]? = some (.cells (cs.setIfInBounds o v) t (0, 0)) := by
  simp only [World.setCell, Array.getElem?_modify, h]; simp
theorem round_end {w W2 W3 w1 : World} {n k : Nat} {u v v' : Value} {o : Obj} {fs : List NW.Fld} {x : NW.Fld} (hPI : PI w n W2) (hv : W2.heap[n + 2]? = some (.cells #[v] 171 (0, 0))) (hk : n + 4 ≤ k) (hk2 : k < W2.heap.size) (hB3 : Below W2.heap.size W2 W3)
    (hrow4 : (W3.setCell ⟨k, 3, none⟩ u).ownsRow (n + 4) 143 4 v fs.length (flds fs)) (hgrow : ((W3.setCell ⟨k, 3, none⟩ u).alloc o).grownBy w1 v.ownBlock) (hown' : w1.ownsRow (n + 4) 143 4 v' (fs.length + 1) (flds fs ++ fcells x)) :
    KeepsOthers W2 (w1.setCell ⟨n + 2, 0, none⟩ v') ∧ (w1.setCell ⟨n + 2, 0, none⟩ v').heap[n + 3]? = W2.heap[n + 3]? ∧ PO w n (fs ++ [x]) (w1.setCell ⟨n + 2, 0, none⟩ v') := by
  have hs3 := hB3.size
  have hh1 : ∀ j, j < n + 4 → w1.heap[j]? = W2.heap[j]? := fun j hj => by
    rw [hgrow.block j (by simp [World.setCell]; omega) (fun e => ownsRow_not hrow4 hj e.symm), Below.heap_alloc _ _ _ (by simp [World.setCell]; omega), Below.heap_setCell _ _ _ _ (by show j ≠ k; omega)]
    exact hB3.block j (by omega)
  have hh : ∀ j, j < n + 4 → j ≠ n + 2 → (w1.setCell ⟨n + 2, 0, none⟩ v').heap[j]? = W2.heap[j]? := fun j hj hj2 => by
    rw [Below.heap_setCell _ _ _ _ (by show j ≠ n + 2; omega)]; exact hh1 j hj
  have hsz1 : W2.heap.size ≤ w1.heap.size := by have := hgrow.size; simp [World.setCell] at this; omega
  refine ⟨?_, hh _ (by omega) (by omega), ⟨(hh n (by omega) (by omega)).trans hPI.r2, (hh (n + 1) (by omega) (by omega)).trans hPI.r3, ?_⟩, v', ?_, ?_⟩
  · refine ((keeps_below hB3).trans ((KeepsOthers.setCell W3 _ _).trans ((KeepsOthers.alloc _ o).trans (KeepsOthers.of_grownBy hgrow ?_)))).trans (KeepsOthers.setCell _ _ _)
    intro j ob ej hj
    obtain ⟨h1, h2⟩ := hrow4
    rcases h2 with ⟨rfl, _⟩ | ⟨g, cap, cur, rfl, hle, hh4, rest⟩
    · simp [Value.ownBlock] at ej
    · simp [Value.ownBlock] at ej
      subst ej
      rw [Below.heap_alloc _ _ _ (Array.getElem?_eq_some_iff.1 hh4).1, hh4] at hj
      cases hj; rfl
  · refine hPI.low.trans ⟨?_, ?_, ?_, ?_, fun j hj => hh j (by omega) (by omega)⟩
    · show w1.os = W2.os
      rw [hgrow.os]; exact hB3.os
    · show w1.tape = W2.tape
      rw [hgrow.tape]; exact hB3.tape
    · show w1.output = W2.output
      rw [hgrow.output]; exact hB3.output
    · simp [World.setCell]; exact hsz1
  · rw [setCell_row (by rw [hh1 _ (by omega)]; exact hv)]; rfl
  · rw [flds_append, List.length_append]
    have e : flds [x] = fcells x := by simp [flds]
    rw [e]
    exact ownsRow_heap hown' fun g ob hg _ _ => Below.heap_setCell _ _ _ _ (by show g ≠ n + 2; omega)
theorem out_kept {W4 w1 : World} {n : Nat} {v : Value} {o X : Obj} {fs : List NW.Fld} (hrow4 : W4.ownsRow (n + 4) 143 4 v fs.length (flds fs)) (hgrow : (W4.alloc o).grownBy w1 v.ownBlock) (hv4 : W4.heap[n + 2]? = some X) : w1.heap[n + 2]? = some X := by
  have hlt := (Array.getElem?_eq_some_iff.1 hv4).1
  rw [hgrow.block _ (by simp; omega) (fun e => ownsRow_not hrow4 (by omega) e.symm), Below.heap_alloc _ _ _ hlt]
  exact hv4
theorem fieldInfo : (Tryd.prog.info? 143).map (fun i => (i.zero, i.size, i.bytes)) = some (some (.agg #[.int .i64 0, .int .i64 0, .int .u64 0, .string ⟨#[]⟩]), 4, 40) := by kernel_rfl
abbrev fobj (x : NW.Fld) : Obj := .cells #[.int .i64 x.num, .int .i64 x.kind, .int .u64 x.n, .string (B x.s)] 143
theorem map_f_inj {a b : List NW.Fld} (h : a.map It.f = b.map It.f) : a = b := by
  induction a generalizing b with
  | nil => cases b with | nil => rfl | cons _ _ => simp at h
  | cons x a ih => cases b with
    | nil => simp at h
    | cons y b => simp at h; rw [h.1, ih h.2]
theorem results_cc {fn : Func} {p q : Tmp} {t u : TypeId} {P : Program} {W : World} {tmps : Array Value} {a b : Addr} {v1 v2 : Value} (h : fn.results = #[.cell p t, .cell q u]) (ha : tmps.getD p undef = .pointer (some a)) (hb : tmps.getD q undef = .pointer (some b))
    (t1 : ∀ w, (isAgg t).run P w = .ok false w) (t2 : ∀ w, (isAgg u).run P w = .ok false w) (h1 : W.cell? a = some v1) (h2 : W.cell? b = some v2) : (results fn tmps).run P W = .ok (.tuple #[v1, v2]) W := by
  have e1 : (do loadVar t (← asAddr (.pointer (some a))) : Sem Value).run P W = .ok v1 W := by simp [asAddr, loadVar, t1, h1]
  have e2 : (do loadVar u (← asAddr (.pointer (some b))) : Sem Value).run P W = .ok v2 W := by simp [asAddr, loadVar, t2, h2]
  rw [Go.Sx.results_eq, h]
  simp [Go.Sx.resF, ha, hb, e1, e2, asAddr, loadVar, t1, t2, h1, h2]
def parseR (n : Nat) (r : Option (List NW.Fld)) (e : Ending) (W' : World) : Prop := match r with
  | none => e = .returned (.tuple #[.slice none 0 0, .bool false])
  | some l => ∃ v, e = .returned (.tuple #[v, .bool true]) ∧ W'.ownsRow (n + 4) 143 4 v l.length (flds l)
theorem ownsRow_slice {W : World} {n₀ sz n : Nat} {e : TypeId} {v : Value} {xs : List Value} (h : W.ownsRow n₀ e sz v n xs) : ∃ q m c, v = .slice q m c := by
  obtain ⟨h1, h2⟩ := h
  rcases h2 with ⟨rfl, _⟩ | ⟨g, cap, cur, rfl, hle, hh, rest⟩
  · exact ⟨_, _, _, rfl⟩
  · exact ⟨_, _, _, rfl⟩
theorem parse_any (s : List UInt8) (hs : s.length ≤ 1099511627776) (w : World) (a0 a1 : Addr) (hE : Errs w a0 a1) : Calls Tryd.prog 109 #[.string (B s)] w fun e W' => Below w.heap.size w W' ∧ parseR w.heap.size (NW.parse s) e W' := by
  refine (callsIn_wide (n := 5)).1 ?_
  refine callsIn_of_wp_marks Tryd.func109 rfl trivial ?_ rfl
  simp only [Tryd.ntmps109, List.size_toArray, List.length_cons, List.length_nil, Nat.reduceAdd, Nat.reduceSub, Array.replicate_succ, Array.replicate_zero, List.push_toArray, List.append_toArray, List.nil_append, List.cons_append]
  gi_wp2_with (refine ⟨trivial, ?_⟩; refine (callsIn_wide.2 (fields_any _ _)).mono ?_; rintro e w' ⟨rfl, rfl⟩)
  obtain ⟨W0, hW0⟩ : ∃ W0, (((w.alloc (.cells #[.slice none 0 0] 171)).alloc (.cells #[.bool false] 4)).alloc (.cells #[.slice none 0 0] 171)).alloc (.cells #[.string (B s)] 9) = W0 := ⟨_, rfl⟩
  have hsz : W0.heap.size = w.heap.size + 4 := by rw [← hW0]; simp
  have hlow : Below w.heap.size w W0 := by rw [← hW0]; exact ((((Below.refl _ w).alloc (Nat.le_refl _) _).alloc (by simp) _).alloc (by simp <;> omega) _).alloc (by simp <;> omega) _
  have hc2 : W0.heap[w.heap.size]? = some (.cells #[.slice none 0 0] 171 (0, 0)) := by rw [← hW0]; rw [Below.heap_alloc _ _ _ (by simp <;> omega), Below.heap_alloc _ _ _ (by simp <;> omega), Below.heap_alloc _ _ _ (by simp)]; exact World.alloc_heap_new w _
  have hc3 : W0.heap[w.heap.size + 1]? = some (.cells #[.bool false] 4 (0, 0)) := by
    rw [← hW0]; rw [Below.heap_alloc _ _ _ (by simp <;> omega), Below.heap_alloc _ _ _ (by simp)]
    have := World.alloc_heap_new (w.alloc (.cells #[.slice none 0 0] 171)) (.cells #[.bool false] 4)
    rw [World.size_alloc] at this; exact this
  have hc4 : W0.heap[w.heap.size + 2]? = some (.cells #[.slice none 0 0] 171 (0, 0)) := by
    rw [← hW0]; rw [Below.heap_alloc _ _ _ (by simp)]
    have := World.alloc_heap_new ((w.alloc (.cells #[.slice none 0 0] 171)).alloc (.cells #[.bool false] 4)) (.cells #[.slice none 0 0] 171)
    rw [World.size_alloc, World.size_alloc] at this; exact this
  have hc5 : W0.heap[w.heap.size + 3]? = some (.cells #[.string (B s)] 9 (0, 0)) := by
    rw [← hW0]
    have := World.alloc_heap_new (((w.alloc (.cells #[.slice none 0 0] 171)).alloc (.cells #[.bool false] 4)).alloc (.cells #[.slice none 0 0] 171)) (.cells #[.string (B s)] 9)
    rw [World.size_alloc, World.size_alloc, World.size_alloc] at this; exact this
  rw [hW0]
  have hst : ∀ pre : List It, StabL W0.heap.size (w.heap.size + 3) (fun W => ∃ fs, pre = fs.map It.f ∧ PO w w.heap.size fs W) := fun pre => by
    rw [hsz]
    exact ⟨⟨fun W W' ⟨fs, e, h⟩ hB => ⟨fs, e, PO.stab.stab.below W W' h hB⟩, fun W v ⟨fs, e, h⟩ => ⟨fs, e, PO.stab.stab.cell W v h⟩⟩, fun W k o o' hk ho hc ⟨fs, e, h⟩ => ⟨fs, e, PO.stab.put W k o o' hk ho hc h⟩⟩
  have hsx : ∀ pre : List It, StabL W0.heap.size (w.heap.size + 3) (fun W => (∃ q x, pre = q ++ [x] ∧ ∀ f, x ≠ It.f f) ∧ PI w w.heap.size W) := fun pre => by
    rw [hsz]
    exact ⟨⟨fun W W' ⟨e, h⟩ hB => ⟨e, PI.stab.stab.below W W' h hB⟩, fun W v ⟨e, h⟩ => ⟨e, PI.stab.stab.cell W v h⟩⟩, fun W k o o' hk ho hc ⟨e, h⟩ => ⟨e, PI.stab.put W k o o' hk ho hc h⟩⟩
  refine wp_rangeS (n := 5) (encs := It.encs a0 a1) (b := w.heap.size + 3) rfl (enters_of Tryd.func163 (by kernel_rfl) rfl) (fun x => by cases x <;> rfl) (by rw [hsz]; omega) (fun pre W => ∃ fs, pre = fs.map It.f ∧ PO w w.heap.size fs W) (fun pre W => (∃ q x, pre = q ++ [x] ∧ ∀ f, x ≠ It.f f) ∧ PI w w.heap.size W)
    hst hsx ⟨[], rfl, ⟨hc2, hc3, hlow⟩, _, hc4, World.ownsRow_nil _ _ _ _⟩
    (S := fun xs => ∃ fs, NW.parse s = some fs ∧ xs = fs.map It.f) (Sp := fun xs => NW.parse s = none ∨ ∃ q f, xs = q ++ [It.f f]) (N := s.length) (G := It.Ok s.length) ?it ?round ?done ?stop
  case it =>
    intro l J Jx hJ hJI hY W hWb h0
    have h0' := hJI _ _ h0
    refine (fields1_any w a0 a1 hE s (by omega) l (w.heap.size + 3) 4 (by omega) J Jx hJ (fun pre W h => ?_) hY W (by rw [hWb]; exact hc5) h0).mono ?_
    · obtain ⟨fs, _, h⟩ := hJI _ _ h
      exact h.low
    · rintro e W' ⟨hv, (⟨fs, h1, h2⟩ | ⟨h1, pre, nm, k, nn, fs, p, sh, h2⟩ | ⟨pre, x, h1, h2⟩)⟩
      · exact ⟨hv, .inl ⟨_, ⟨fs, h1, rfl⟩, h2⟩⟩
      · obtain ⟨fs', h3, _⟩ := hJI _ _ h2
        have : It.bad nm k nn fs p sh ∈ fs'.map It.f := by rw [← h3]; simp
        simp at this
      · refine ⟨hv, .inr ⟨_, ?_, h1⟩⟩
        rcases h2 with h2 | ⟨f, rfl⟩
        · exact .inl h2
        · exact .inr ⟨_, _, rfl⟩
  case round =>
    rintro l pre x W ⟨fs, rfl, hO⟩ hN hG hl ⟨ol, hol, hcl⟩
    rw [hsz] at hl
    have hlW := (Array.getElem?_eq_some_iff.1 hol).1
    cases x with
    | f x =>
      simp only [It.encs]
      gi_wp2
      refine ⟨(Below.refl _ _).alloc (Nat.le_refl _) _, ?_⟩
      rintro W2 hs2 ho2 ⟨fs', he, hO2⟩
      obtain rfl := map_f_inj he
      have hE2 := hE.below hO2.low
      have hg0 := hE2.c0
      have hg1 := hE2.c1
      have hbox2 : W2.heap[W.heap.size]? = some (.cells #[.int .i64 x.num, .int .i64 x.kind, .int .u64 x.n, .string (B x.s)] 143 (0, 0)) := by rw [ho2 _ (by omega)]; exact World.alloc_heap_new W _
      obtain ⟨v, hv0, hrow⟩ := hO.out
      have hv0lt := (Array.getElem?_eq_some_iff.1 hv0).1
      have hW21 : ∀ (j : Nat) (o : Obj), W.heap[j]? = some o → o.isCells = true → W2.heap[j]? = W.heap[j]? := fun j o hj hc => by
        have hjl : j ≠ l := fun e => by subst e; rw [hol] at hj; cases hj; rw [hcl] at hc; cases hc
        rw [ho2 j hjl]; exact Below.heap_alloc _ _ _ (Array.getElem?_eq_some_iff.1 hj).1
      have hv2 := (hW21 _ _ hv0 rfl).trans hv0
      obtain ⟨i0, hi, hz0, hz1, hz2⟩ := info_parts fieldInfo
      have hb0 := cell_of_row W2 W.heap.size 0 _ _ _ hbox2
      have hb1 := cell_of_row W2 W.heap.size 1 _ _ _ hbox2
      have hb2 := cell_of_row W2 W.heap.size 2 _ _ _ hbox2
      have hb3 := cell_of_row W2 W.heap.size 3 _ _ _ hbox2
      have hne2 : ∀ W3 : World, w.heap.size + 2 ≠ (⟨W.heap.size, 3, none⟩ : Addr).block := fun _ => by show w.heap.size + 2 ≠ W.heap.size; omega
      have hgo : ∀ W3, Below W2.heap.size W2 W3 → ∀ (g : Nat) (o : Obj), w.heap.size + 4 ≤ g → W.heap[g]? = some o → o.isCells = true → (W3.setCell ⟨W.heap.size, 3, none⟩ (.string (B x.s))).heap[g]? = W.heap[g]? := fun W3 hB3 g o _ ho hc => by
        have hlt := (Array.getElem?_eq_some_iff.1 ho).1
        rw [Below.heap_setCell _ _ _ _ (by show g ≠ W.heap.size; omega), hB3.block g (by rw [hs2]; simp; omega)]
        exact hW21 g o ho hc
      have hlen : fs.length < s.length := by simpa using hN
      gi_wp2_with (first
        | (refine ⟨trivial, ?_⟩; gi_at_call 126; refine (CallsIn.inRound l (callsIn_wide.2 (is_nil _ _))).mono ?_; rintro e w' ⟨rfl, rfl⟩)
        | (refine ⟨trivial, ?_⟩; gi_at_call 143; refine (CallsIn.inRound l (callsIn_wide.2 (clone_any _ ?_ _))).mono ?_; rotate_left; rintro e W3 ⟨rfl, hB3⟩; have hbox3 := (hB3.block _ (Array.getElem?_eq_some_iff.1 hbox2).1).trans hbox2; have hv3 := (hB3.block _ (Array.getElem?_eq_some_iff.1 hv2).1).trans hv2; have hf3 := frozen_at (o := 3) hbox3; have hb33 := cell_of_row W3 W.heap.size 3 _ _ _ hbox3; have hbox4 := setCell_row (o := 3) (v := .string (B x.s)) hbox3; have hv4 := (Below.heap_setCell W3 ⟨W.heap.size, 3, none⟩ (.string (B x.s)) (w.heap.size + 2) (hne2 W3)).trans hv3; have hb40 := cell_of_row _ W.heap.size 0 _ _ _ hbox4; have hb41 := cell_of_row _ W.heap.size 1 _ _ _ hbox4; have hb42 := cell_of_row _ W.heap.size 2 _ _ _ hbox4; have hb43 := cell_of_row _ W.heap.size 3 _ _ _ hbox4; have hrow4 : (W3.setCell ⟨W.heap.size, 3, none⟩ (.string (B x.s))).ownsRow (w.heap.size + 4) 143 4 v fs.length (flds fs) := ownsRow_heap hrow (hgo W3 hB3); have hvc4 : (W3.setCell ⟨W.heap.size, 3, none⟩ (.string (B x.s))).cell? ⟨w.heap.size + 1 + 1, 0, none⟩ = some v := cell_of_row _ (w.heap.size + 2) 0 _ _ _ hv4)
        | (gi_at_builtin; refine wpListIn_append_own _ rfl _ _ 171 rfl (w.heap.size + 4) 143 i0 (.agg #[.int .i64 0, .int .i64 0, .int .u64 0, .string ⟨#[]⟩]) 4 40 Tryd.underlying171 hi hz0 hz1 hz2 rfl (by decide) v fs.length (flds fs) rfl (hrow4.alloc _) _ 1 1 (fcells x) rfl rfl ?_ ?_ ?_ ?_ ?_ ?_; rotate_left 5; intro v' w1 hown' hgrow _; obtain ⟨g', cap', rfl⟩ := ownsRow_succ hown'; have hv1 := out_kept hrow4 hgrow hv4; have hvc1 : w1.cell? ⟨w.heap.size + 1 + 1, 0, none⟩ = some v := cell_of_row _ (w.heap.size + 2) 0 _ _ _ hv1; have hvf1 : w1.frozen? ⟨w.heap.size + 1 + 1, 0, none⟩ = false := frozen_at (b := w.heap.size + 2) hv1))
      · obtain ⟨k1, k2, k3⟩ := round_end hO2.toPI hv2 (by omega) (by rw [hs2]; simp) hB3 hrow4 hgrow hown'
        exact ⟨k1, k2, fs ++ [x], by simp, k3⟩
      · intro j u hj
        have hj4 : j < 4 := by have := (List.getElem?_eq_some_iff.1 hj).1; simpa [fcells] using this
        have e := World.alloc_heap_new (W3.setCell ⟨W.heap.size, 3, none⟩ (.string (B x.s))) (fobj x)
        have := cell_of_row _ (W3.setCell ⟨W.heap.size, 3, none⟩ (.string (B x.s))).heap.size j _ _ _ e
        rw [show W3.heap.size = (W3.setCell ⟨W.heap.size, 3, none⟩ (.string (B x.s))).heap.size by simp [World.setCell], Go.Sx.add_add, Nat.zero_add, this]
        simpa [fcells] using hj
      · intro u hu
        simp [fcells] at hu
        rcases hu with rfl | rfl | rfl | rfl <;> rfl
      · unfold maxLen; omega
      · omega
      · have := hB3.size; rw [hs2, World.size_alloc] at this; simp [World.setCell]; omega
      · rw [Go.Sx.B_size]; have : x.s.length ≤ s.length := hG; omega
    | bad num kind nn gs p sh =>
      have fin : ∀ (W2 W3 : World), PI w w.heap.size W2 → Below W2.heap.size W2 W3 → KeepsOthers W2 ((W3.setCell ⟨w.heap.size, 0, none⟩ (.slice none 0 0)).setCell ⟨w.heap.size + 1, 0, none⟩ (.bool false)) ∧ PI w w.heap.size ((W3.setCell ⟨w.heap.size, 0, none⟩ (.slice none 0 0)).setCell ⟨w.heap.size + 1, 0, none⟩ (.bool false)) := fun W2 W3 h hB => by
        have k2 := (hB.block _ (Array.getElem?_eq_some_iff.1 h.r2).1).trans h.r2
        have k3 := (hB.block _ (Array.getElem?_eq_some_iff.1 h.r3).1).trans h.r3
        refine ⟨((keeps_below hB).trans (KeepsOthers.setCell _ _ _)).trans (KeepsOthers.setCell _ _ _), ?_, ?_, ?_⟩
        · rw [Below.heap_setCell _ _ _ _ (by show w.heap.size ≠ w.heap.size + 1; omega), setCell_row k2]; rfl
        · rw [setCell_row (by rw [Below.heap_setCell _ _ _ _ (by show w.heap.size + 1 ≠ w.heap.size; omega)]; exact k3)]; rfl
        · exact ((h.low.trans (hB.mono (Nat.le_of_lt (Array.getElem?_eq_some_iff.1 h.r2).1))).setCell (p := ⟨w.heap.size, 0, none⟩) (Nat.le_refl _) _).setCell (p := ⟨w.heap.size + 1, 0, none⟩) (by show w.heap.size ≤ w.heap.size + 1; omega) _
      simp only [It.encs]
      cases sh with
      | true =>
        simp only [if_true]
        gi_wp2
        refine ⟨(Below.refl _ _).alloc (Nat.le_refl _) _, ?_⟩
        rintro W2 hs2 ho2 ⟨fs', he, hO2⟩
        have hE2 := hE.below hO2.low
        have hg0 := hE2.c0
        have hg1 := hE2.c1
        have c2 := cell_of_heap hO2.r2
        have c3 := cell_of_heap hO2.r3
        gi_wp2
        refine ⟨trivial, ?_⟩
        refine (CallsIn.inRound l (callsIn_wide.2 (is_at_same _ _ _))).mono ?_
        rintro e W3 ⟨rfl, hB3⟩
        have k2 := (hB3.block _ (Array.getElem?_eq_some_iff.1 hO2.r2).1).trans hO2.r2
        have k3 := (hB3.block _ (Array.getElem?_eq_some_iff.1 hO2.r3).1).trans hO2.r3
        have kc2 := cell_of_heap k2
        have kc3 := cell_of_heap k3
        have kf2 := frozen_at (o := 0) k2
        have kf3 := frozen_at (o := 0) k3
        gi_wp2
        refine ⟨trivial, ?_⟩
        gi_wp2
        obtain ⟨f1, f2⟩ := fin W2 W3 hO2.toPI hB3
        exact ⟨f1, ⟨_, _, rfl, fun f => by simp⟩, f2⟩
      | false =>
        simp only [Bool.false_eq_true, if_false]
        gi_wp2
        refine ⟨(Below.refl _ _).alloc (Nat.le_refl _) _, ?_⟩
        rintro W2 hs2 ho2 ⟨fs', he, hO2⟩
        have hE2 := hE.below hO2.low
        have hg0 := hE2.c0
        have hg1 := hE2.c1
        obtain ⟨ca, ta, ha⟩ := hE2.h0
        obtain ⟨cb, tb, hbb⟩ := hE2.h1
        gi_wp2
        refine ⟨trivial, ?_⟩
        refine (CallsIn.inRound l (callsIn_wide.2 (is_at_other _ a1 a0 _ _ _ _ _ hE2.ne.symm hbb ha))).mono ?_
        rintro e W3 ⟨rfl, hB3⟩
        have hE3 := hE2.below hB3
        have hg1' := hE3.c1
        gi_wp2
        refine ⟨trivial, ?_⟩
        refine (CallsIn.inRound l (callsIn_wide.2 (is_at_same _ _ _))).mono ?_
        rintro e W4 ⟨rfl, hB4⟩
        have hB34 : Below W2.heap.size W2 W4 := hB3.trans (hB4.mono hB3.size)
        have k2 := (hB34.block _ (Array.getElem?_eq_some_iff.1 hO2.r2).1).trans hO2.r2
        have k3 := (hB34.block _ (Array.getElem?_eq_some_iff.1 hO2.r3).1).trans hO2.r3
        have kc2 := cell_of_heap k2
        have kc3 := cell_of_heap k3
        have kf2 := frozen_at (o := 0) k2
        have kf3 := frozen_at (o := 0) k3
        gi_wp2
        obtain ⟨f1, f2⟩ := fin W2 W4 hO2.toPI hB34
        exact ⟨f1, ⟨_, _, rfl, fun f => by simp⟩, f2⟩
  case done =>
    rintro xs W ⟨fs, hp, rfl⟩ ⟨fs', he, hO⟩ hK
    obtain rfl := map_f_inj he
    obtain ⟨v, hv, hrow⟩ := hO.out
    obtain ⟨qv, mv, cv, rfl⟩ := ownsRow_slice hrow
    have hk2 : W.cell? ⟨w.heap.size, 0, none⟩ = some (.slice none 0 0) := cell_of_row W w.heap.size 0 _ _ _ hO.r2
    have hk3 : W.cell? ⟨w.heap.size + 1, 0, none⟩ = some (.bool false) := cell_of_row W (w.heap.size + 1) 0 _ _ _ hO.r3
    have hkv : W.cell? ⟨w.heap.size + 1 + 1, 0, none⟩ = some (.slice qv mv cv) := cell_of_row W (w.heap.size + 2) 0 _ _ _ hv
    have hf2 := frozen_at (o := 0) hO.r2
    have hf3 := frozen_at (o := 0) hO.r3
    gi_wp2
    refine ⟨by simp, .inl ⟨_, _, rfl, run_takeDeferred (by rw [Below.heap_setCell _ _ _ _ (by show w.heap.size + 4 ≠ w.heap.size + 1; omega), Below.heap_setCell _ _ _ _ (by show w.heap.size + 4 ≠ w.heap.size; omega), ← hsz]; exact hK), ?_⟩⟩
    have hl2 := setCell_row (o := 0) (v := .slice qv mv cv) hO.r2
    have hl3 : ((W.setCell ⟨w.heap.size, 0, none⟩ (.slice qv mv cv)).setCell ⟨w.heap.size + 1, 0, none⟩ (.bool true)).heap[w.heap.size + 1]? = some (.cells #[.bool true] 4 (0, 0)) := by
      rw [setCell_row (by rw [Below.heap_setCell _ _ _ _ (by show w.heap.size + 1 ≠ w.heap.size; omega)]; exact hO.r3)]; rfl
    have hl2' : ((W.setCell ⟨w.heap.size, 0, none⟩ (.slice qv mv cv)).setCell ⟨w.heap.size + 1, 0, none⟩ (.bool true)).heap[w.heap.size]? = some (.cells #[.slice qv mv cv] 171 (0, 0)) := by
      rw [Below.heap_setCell _ _ _ _ (by show w.heap.size ≠ w.heap.size + 1; omega), hl2]; rfl
    refine ⟨_, results_cc rfl rfl rfl Tryd.isAgg171 Tryd.isAgg4 (cell_of_heap (by rw [World.putObj_heap_other (by omega)]; exact hl2')) (cell_of_heap (by rw [World.putObj_heap_other (by omega)]; exact hl3)), ?_, ?_⟩
    · refine ((hO.low.setCell (p := ⟨w.heap.size, 0, none⟩) (Nat.le_refl _) _).setCell (p := ⟨w.heap.size + 1, 0, none⟩) (by show w.heap.size ≤ w.heap.size + 1; omega) _).trans ((Below.refl _ _).grown (grownBy_putObj' _ _ _) (by simp [World.setCell]; have := (Array.getElem?_eq_some_iff.1 hO.r2).1; omega) (fun j e => by cases e; omega))
    · refine ⟨_, rfl, ownsRow_heap hrow fun g o hg ho hc => ?_⟩
      have hgD : g ≠ w.heap.size + 4 := fun e => by subst e; rw [hsz] at hK; rw [hK] at ho; cases ho; cases hc
      rw [World.putObj_heap_other hgD, Below.heap_setCell _ _ _ _ (by show g ≠ w.heap.size + 1; omega), Below.heap_setCell _ _ _ _ (by show g ≠ w.heap.size; omega)]
  case stop =>
    rintro xs W hS ⟨⟨q, x, rfl, hx⟩, hI⟩ hK
    have hP0 : NW.parse s = none := by
      rcases hS with h | ⟨q', f, h⟩
      · exact h
      · have := (List.append_inj' h rfl).2
        simp at this
        exact absurd this (hx f)
    have hk2 : W.cell? ⟨w.heap.size, 0, none⟩ = some (.slice none 0 0) := cell_of_row W w.heap.size 0 _ _ _ hI.r2
    have hk3 : W.cell? ⟨w.heap.size + 1, 0, none⟩ = some (.bool false) := cell_of_row W (w.heap.size + 1) 0 _ _ _ hI.r3
    gi_wp2
    refine ⟨by simp, .inl ⟨_, _, rfl, run_takeDeferred hK, ?_⟩⟩
    refine ⟨_, results_cc rfl rfl rfl Tryd.isAgg171 Tryd.isAgg4 (cell_of_heap (by rw [World.putObj_heap_other (by omega)]; exact hI.r2)) (cell_of_heap (by rw [World.putObj_heap_other (by omega)]; exact hI.r3)), ?_, ?_⟩
    · exact hI.low.trans ((Below.refl _ _).grown (grownBy_putObj' _ _ _) (by have := (Array.getElem?_eq_some_iff.1 hI.r2).1; omega) (fun j e => by cases e; omega))
    · rw [hP0]; rfl
end Go.Proofs.YtbdacbcpniegiaaDoor
namespace Go.Proofs.YtbdacbcpniegiaaDoor
open Go Go.RowKit Go.Proofs Go.Sx
structure EA where
  k : Addr
  f : Addr
  s : Addr
  w : Addr
def tS : List UInt8 := [116, 111, 111, 32, 102, 101, 119, 32, 98, 121, 116, 101, 115]
def tW : List UInt8 := [110, 111, 32, 115, 117, 99, 104, 32, 102, 105, 101, 108, 100]
abbrev errV (a : Addr) : Value := .iface 253 (.pointer (some a))
def GW (e : EA) : List (Addr × Value) := [(⟨2, 0, none⟩, errV e.s), (⟨3, 0, none⟩, errV e.w), (e.s, .string (B tS)), (e.w, .string (B tW))]
structure EA.Ok (e : EA) : Prop where
  kf : e.k ≠ e.f
  sw : e.s ≠ e.w
theorem Known.cells {X : Ctx} {G : List (Addr × Value)} (h : Known X G) {ρ : List (List Nat)} {σ : List Value} {a : Act} {w : World} {c : Cfg} (hr : Rel X c ρ σ a w) {p : Addr × Value} (hp : p ∈ G) : w.cell? p.1 = some p.2 ∧ loneStr w p := by
  obtain ⟨h1, h2, h3⟩ := h p hp
  refine ⟨hr.old h1 h2, ?_⟩
  unfold loneStr at h3 ⊢
  split
  · rename_i s hs
    rw [hs] at h3
    obtain ⟨cs, t, h4⟩ := h3
    exact ⟨cs, t, (hr.low.block _ (Array.getElem?_eq_some_iff.1 h4).1 h2).trans h4⟩
  · trivial
theorem Known.errs {X : Ctx} {e : EA} (he : e.Ok) (h : Known X (GW e)) {ρ : List (List Nat)} {σ : List Value} {a : Act} {w : World} {c : Cfg} (hr : Rel X c ρ σ a w) : Errs w e.s e.w :=
  ⟨(Known.cells h hr (p := (⟨2, 0, none⟩, errV e.s)) (by simp [GW])).1, (Known.cells h hr (p := (⟨3, 0, none⟩, errV e.w)) (by simp [GW])).1, he.sw,
    (Known.cells h hr (p := (e.s, .string (B tS))) (by simp [GW])).2, (Known.cells h hr (p := (e.w, .string (B tW))) (by simp [GW])).2⟩
@[reducible] def frow (l : List NW.Fld) : LO := .row 143 4 l.length (flds l)
theorem ownBlock_of_row {W : World} {n₀ sz n : Nat} {e : TypeId} {v : Value} {xs : List Value} (h : W.ownsRow n₀ e sz v n xs) : v.oneCell' = true ∧ ∃ fp : List Nat, fp.Nodup ∧ (∀ b ∈ fp, n₀ ≤ b ∧ b < W.heap.size) ∧ (∀ k, v.ownBlock = some k → k ∈ fp) ∧ W.ownsRow 0 e sz v n xs := by
  obtain ⟨h1, h2⟩ := h
  rcases h2 with ⟨rfl, h3⟩ | ⟨g, cap, cur, rfl, hle, hh, rest⟩
  · exact ⟨rfl, [], by simp, by simp, by simp [Value.ownBlock], h1, .inl ⟨rfl, h3⟩⟩
  · refine ⟨rfl, [g], by simp, fun b hb => ?_, fun k hk => ?_, h1, .inr ⟨g, cap, cur, rfl, Nat.zero_le _, hh, rest⟩⟩
    · simp at hb; subst hb; exact ⟨hle, (Array.getElem?_eq_some_iff.1 hh).1⟩
    · simp [Value.ownBlock] at hk; subst hk; simp
def parsedO : Option (List NW.Fld) → List LO
  | none => []
  | some l => [frow l]
def parsedV : Option (List NW.Fld) → SV
  | none => .tup [.c (.v (.slice none 0 0)), .c (.v (.bool false))]
  | some l => .tup [.c (.row 0), .c (.v (.bool true))]
theorem parse_ctrW {e : EA} (he : e.Ok) (s : List UInt8) (hs : s.length ≤ 1099511627776) : Ctr Tryd.prog (GW e) 109 [] [vv (.string (B s))] (fun os v => os = parsedO (NW.parse s) ∧ v = parsedV (NW.parse s)) := by
  intro X hP hG N hN ρ σ a w hr vals ha
  match vals, ha with
  | [v0], ha =>
    obtain rfl : v0 = .string (B s) := ha.1
    rw [hP]
    refine (parse_any s hs w e.s e.w (Known.errs he hG hr)).mono ?_
    rintro en W' ⟨hb, hR⟩
    cases hp : NW.parse s with
    | none =>
      rw [hp] at hR hN
      obtain rfl : en = _ := hR
      exact ⟨_, ⟨[], []⟩, ρ, σ, parsedV none, rfl, hr.below hb, ⟨[.slice none 0 0, .bool false], rfl, rfl, rfl, trivial⟩, hN _ _ ⟨rfl, rfl⟩⟩
    | some l =>
      rw [hp] at hR hN
      obtain ⟨v, rfl, hrow⟩ := hR
      obtain ⟨h1, fp, hnd, hfp, hk, h0⟩ := ownBlock_of_row hrow
      have hR := hr.push (o := frow l) (fp := fp) (v := v) hb (fun b hb => ⟨by have := (hfp b hb).1; omega, (hfp b hb).2⟩) hnd ⟨h0, hk⟩ h1
      refine ⟨_, ⟨[], [frow l]⟩, _, _, parsedV (some l), rfl, hR, ⟨[v, .bool true], rfl, ?_, rfl, trivial⟩, hN _ _ ⟨rfl, rfl⟩⟩
      show (σ ++ [v])[0]? = some v
      have : σ.length = 0 := by rw [hr.lenS]; rfl
      rw [List.getElem?_append_right (by omega), this]; rfl
end Go.Proofs.YtbdacbcpniegiaaDoor
namespace Go.Proofs.YtbdacbcpniegiaaDoor
open Go Go.RowKit Go.Proofs Go.Sx
end Go.Proofs.YtbdacbcpniegiaaDoor
namespace Go.Proofs.YtbdacbcpniegiaaDoor
open Go Go.RowKit Go.Proofs Go.Sx
instance : Inhabited NW.Fld := ⟨⟨0, 0, 0, []⟩⟩
theorem flds_cell (l : List NW.Fld) (i : Nat) (h : i < l.length) : ((flds l).drop (i * 4)).take 4 = fcells (l.getD i default) := by
  induction l generalizing i with
  | nil => simp at h
  | cons f l ih =>
    cases i with
    | zero => simp [flds, fcells]
    | succ i =>
      have : flds (f :: l) = fcells f ++ flds l := rfl
      rw [this, show (i + 1) * 4 = 4 + i * 4 by omega, ← List.drop_drop]
      simp only [List.getD_cons_succ]
      exact ih i (by simpa using h)
theorem parse_len_aux : ∀ (n : Nat) (s : List UInt8) (l : List NW.Fld), s.length ≤ n → NW.parse s = some l → l.length ≤ s.length
  | n, [], l, _, h => by rw [NW.parse_nil] at h; cases h; simp
  | 0, b :: s, l, hn, h => by simp at hn
  | n + 1, b :: s, l, hn, h => by
    cases ht : NW.takeF (b :: s) with
    | none => rw [NW.parse_none (by simp) ht] at h; cases h
    | some fr =>
      obtain ⟨f, r⟩ := fr
      have hl := NW.takeF_len ht
      rw [NW.parse_some ht] at h
      cases hr : NW.parse r with
      | none => rw [hr] at h; cases h
      | some l' =>
        rw [hr] at h; cases h
        have := parse_len_aux n r l' (by simp only [List.length_cons] at hl hn; omega) hr
        simp only [List.length_cons] at *
        omega
theorem parse_len {s : List UInt8} {l : List NW.Fld} (h : NW.parse s = some l) : l.length ≤ s.length := parse_len_aux _ s l (Nat.le_refl _) h
theorem drop_getD {l : List NW.Fld} {i : Nat} (h : i < l.length) : l.drop i = l.getD i default :: l.drop (i + 1) := by
  rw [List.drop_eq_getElem_cons h]; congr 1
  rw [List.getD_eq_getElem?_getD, List.getElem?_eq_getElem h]; rfl
end Go.Proofs.YtbdacbcpniegiaaDoor
namespace Go.Proofs.YtbdacbcpniegiaaDoor
open Go Go.RowKit Go.Proofs Go.Sx
theorem isNaN_int (a : Int) (w : World) : Calls Tryd.prog 148 #[.int .i64 a] w fun e w' => e = .returned (.bool false) ∧ Below w.heap.size w w' := by
  refine calls_pureK (args := [.int .i64 a]) w Tryd.func148 rfl Tryd.ntmps148 (by simp) ?_
  intro X K hX hK
  have hnt : X.nt = 6 := by rw [hX]
  have hwi : X.wi = w := by rw [hX]
  have hP : X.P = Tryd.prog := by rw [hX]
  have hown : X.own = [] := by rw [hX]
  have hbl : X.base.length = 0 := by rw [hX]; rfl
  clear hX
  have hT : True := trivial
  repeat' (first
    | (refine SX.seqK ?_; intro N hN)
    | ((first | (refine SX.ops ?_)); simp only [GA, ↓GB, GX, simprocAttr, hnt, hT])
    | ((first | refine SX.skip ?_ | refine SX.exit ?_ | refine SX.label ?_ | refine SX.ret ?_); try simp only [GA, ↓GB, GX, simprocAttr])
    | (refine hN _ ?_; clear hN N)
    | (refine hK _ _ (Fin.res rfl hown ?_); simp only [GA, ↓GB, GX, simprocAttr, f_a, f_b, f_n, f_c, f_B, f_v, f_g, f_0, f_1, f_2, hT, hwi]; intro w' hbel; refine Done.out ?_)
    | (refine bif2.mk (fun hb => ?_) (fun hb => ?_) <;> (try simp only [hb, GA, ↓GB, GX, simprocAttr, hnt, hT]) <;> ((first | cases hb | (simp only [HBs] at hb) | skip) <;> (first | (exfalso; omega) | skip)))
    | (refine and_mk ?_ ?_; (focus first | decide | omega | rfl | assumption | (simp only [LBs]; omega) | (simp; done)))
    | (refine And.intro ?_ ?_))
  all_goals (try refine Done.mk ?_)
  exact hbel
theorem isNaN_str (s : List UInt8) (w : World) : Calls Tryd.prog 149 #[.string (B s)] w fun e w' => e = .returned (.bool false) ∧ Below w.heap.size w w' := by
  refine calls_pureK (args := [.string (B s)]) w Tryd.func149 rfl Tryd.ntmps149 (by simp) ?_
  intro X K hX hK
  have hnt : X.nt = 6 := by rw [hX]
  have hwi : X.wi = w := by rw [hX]
  have hP : X.P = Tryd.prog := by rw [hX]
  have hown : X.own = [] := by rw [hX]
  have hbl : X.base.length = 0 := by rw [hX]; rfl
  clear hX
  have hT : True := trivial
  repeat' (first
    | (refine SX.seqK ?_; intro N hN)
    | ((first | (refine SX.ops ?_)); simp only [GA, ↓GB, GX, simprocAttr, hnt, hT])
    | ((first | refine SX.skip ?_ | refine SX.exit ?_ | refine SX.label ?_ | refine SX.ret ?_); try simp only [GA, ↓GB, GX, simprocAttr])
    | (refine hN _ ?_; clear hN N)
    | (refine hK _ _ (Fin.res rfl hown ?_); simp only [GA, ↓GB, GX, simprocAttr, f_a, f_b, f_n, f_c, f_B, f_v, f_g, f_0, f_1, f_2, hT, hwi]; intro w' hbel; refine Done.out ?_)
    | (refine bif2.mk (fun hb => ?_) (fun hb => ?_) <;> (try simp only [hb, GA, ↓GB, GX, simprocAttr, hnt, hT]) <;> ((first | cases hb | (simp only [HBs] at hb) | skip) <;> (first | (exfalso; omega) | skip)))
    | (refine and_mk ?_ ?_; (focus first | decide | omega | rfl | assumption | (simp only [LBs]; omega) | (simp; done)))
    | (refine And.intro ?_ ?_))
  all_goals (try refine Done.mk ?_)
  exact hbel
theorem compare_int (a b : Int) (w : World) : Calls Tryd.prog 120 #[.int .i64 a, .int .i64 b] w fun e w' => e = .returned (.int .i64 (cmpI a b)) ∧ Below w.heap.size w w' := by
  refine calls_pureK (args := [.int .i64 a, .int .i64 b]) w Tryd.func120 rfl Tryd.ntmps120 (by simp) ?_
  intro X K hX hK
  have hnt : X.nt = 20 := by rw [hX]
  have hwi : X.wi = w := by rw [hX]
  have hP : X.P = Tryd.prog := by rw [hX]
  have hown : X.own = [] := by rw [hX]
  have hbl : X.base.length = 0 := by rw [hX]; rfl
  clear hX
  have hT := Ty.T120 hP
  repeat' (first
    | (refine SX.seqK ?_; intro N hN)
    | ((first | (refine SX.ops ?_)); simp only [GA, ↓GB, GX, simprocAttr, hnt, hT])
    | ((first | refine SX.skip ?_ | refine SX.exit ?_ | refine SX.label ?_ | refine SX.ret ?_); try simp only [GA, ↓GB, GX, simprocAttr])
    | (refine hN _ ?_; clear hN N)
    | (refine hK _ _ (Fin.res rfl hown ?_); simp only [GA, ↓GB, GX, simprocAttr, f_a, f_b, f_n, f_c, f_B, f_v, f_g, f_0, f_1, f_2, hT, hwi]; intro w' hbel; refine Done.out ?_)
    | ((first | refine SX.cond rfl (fun hb => ?_) (fun hb => ?_) | (refine bif2.mk (fun hb => ?_) (fun hb => ?_) <;> (try simp only [hb, GA, ↓GB, GX, simprocAttr, hnt, hT]))) <;> ((first | cases hb | (simp only [HBs] at hb) | skip) <;> (first | (exfalso; omega) | skip)))
    | ((first | (refine CallVC.pv hP (isNaN_int _) rfl ?_) | (refine CallQ.pv hP (isNaN_int _) rfl ?_)); simp only [GA, ↓GB, GX, simprocAttr, hnt, hT])
    | (refine and_mk ?_ ?_; (focus first | decide | omega | rfl | assumption | (simp only [LBs]; omega) | (simp; done)))
    | (refine And.intro ?_ ?_))
  all_goals (try refine Done.mk ?_)
  all_goals (refine ⟨?_, hbel⟩; congr 2; simp only [cmpI]; split <;> (try split) <;> omega)
theorem compare_str (a b : List UInt8) (w : World) : Calls Tryd.prog 121 #[.string (B a), .string (B b)] w fun e w' => e = .returned (.int .i64 (cmpS a b)) ∧ Below w.heap.size w w' := by
  refine calls_pureK (args := [.string (B a), .string (B b)]) w Tryd.func121 rfl Tryd.ntmps121 (by simp) ?_
  intro X K hX hK
  have hnt : X.nt = 20 := by rw [hX]
  have hwi : X.wi = w := by rw [hX]
  have hP : X.P = Tryd.prog := by rw [hX]
  have hown : X.own = [] := by rw [hX]
  have hbl : X.base.length = 0 := by rw [hX]; rfl
  clear hX
  have hT := Ty.T121 hP
  repeat' (first
    | (refine SX.seqK ?_; intro N hN)
    | ((first | (refine SX.ops ?_)); simp only [GA, ↓GB, GX, simprocAttr, hnt, hT, gtr_eq])
    | ((first | refine SX.skip ?_ | refine SX.exit ?_ | refine SX.label ?_ | refine SX.ret ?_); try simp only [GA, ↓GB, GX, simprocAttr])
    | (refine hN _ ?_; clear hN N)
    | (refine hK _ _ (Fin.res rfl hown ?_); simp only [GA, ↓GB, GX, simprocAttr, f_a, f_b, f_n, f_c, f_B, f_v, f_g, f_0, f_1, f_2, hT, hwi, gtr_eq]; intro w' hbel; refine Done.out ?_)
    | ((first | refine SX.cond rfl (fun hb => ?_) (fun hb => ?_) | (refine bif2.mk (fun hb => ?_) (fun hb => ?_) <;> (try simp only [hb, GA, ↓GB, GX, simprocAttr, hnt, hT, gtr_eq]))) <;> ((first | cases hb | (simp only [HBs] at hb) | skip) <;> (first | (exfalso; omega) | skip)))
    | ((first | (refine CallVC.pv hP (isNaN_str _) rfl ?_) | (refine CallQ.pv hP (isNaN_str _) rfl ?_)); simp only [GA, ↓GB, GX, simprocAttr, hnt, hT, gtr_eq])
    | (refine and_mk ?_ ?_; (focus first | decide | omega | rfl | assumption | (simp only [LBs]; omega) | (simp; done)))
    | (refine And.intro ?_ ?_))
  all_goals (try refine Done.mk ?_)
  all_goals (refine ⟨?_, hbel⟩; congr 2; simp_all [cmpS])
end Go.Proofs.YtbdacbcpniegiaaDoor
namespace Go.Proofs.YtbdacbcpniegiaaDoor
open Go Go.RowKit Go.Proofs Go.Sx
def cmpKey (a : Int) (s : List UInt8) (b : Int) (t : List UInt8) : Int := if cmpI a b ≠ 0 then cmpI a b else cmpS s t
theorem order_any (a b : Int) (s t : List UInt8) (w : World) : Calls Tryd.prog 63 #[.agg #[.int .i64 a, .string (B s)], .agg #[.int .i64 b, .string (B t)]] w fun e w' => e = .returned (.int .i64 (cmpKey a s b t)) ∧ Below w.heap.size w w' := by
  refine calls_pureK (args := [.agg #[.int .i64 a, .string (B s)], .agg #[.int .i64 b, .string (B t)]]) w Tryd.func63 rfl Tryd.ntmps63 (by simp) ?_
  intro X K hX hK
  have hnt : X.nt = 17 := by rw [hX]
  have hwi : X.wi = w := by rw [hX]
  have hP : X.P = Tryd.prog := by rw [hX]
  have hown : X.own = [] := by rw [hX]
  have hbl : X.base.length = 0 := by rw [hX]; rfl
  clear hX
  have hT := Ty.T63 hP
  have hnt1 := True.intro; have hT1 := True.intro; have hU1P := True.intro
  repeat' (first
    | (refine SX.seqK ?_; intro N hN)
    | ((first | (refine SX.ops ?_) | (refine SX.planT (id := 1) [.q [(0, [2]), (1, [5]), (2, [3]), (3, [7]), (4, [6, 8]), (5, [2]), (6, [10]), (7, [3]), (8, [12]), (9, [11, 13])] none, .s 10, .s 11, .s 12] ?_ ?_ ?_; (focus first | (rw [hP]; kernel_rfl) | (rw [hU1P, hP]; kernel_rfl)); (focus kernel_rfl))); simp only [GA, ↓GB, GX, simprocAttr, hnt, hT, hnt1, hT1, hU1P])
    | ((first | refine SX.skip ?_ | refine SX.exit ?_ | refine SX.label ?_ | refine SX.ret ?_); try simp only [GA, ↓GB, GX, simprocAttr])
    | (refine hN _ ?_; clear hN N)
    | ((first | refine hK1 _ _ (FinI.ret3 ?_) | refine hK1 _ _ (FinI.nrm3 ?_)); (repeat (clear hN N)); clear hK1 K1; simp only [GA, ↓GB, GX, simprocAttr, finP_s, hnt, hT, hnt1, hT1, hU1P])
    | (refine hK _ _ (Fin.res rfl hown ?_); simp only [GA, ↓GB, GX, simprocAttr, f_a, f_b, f_n, f_c, f_B, f_v, f_g, f_0, f_1, f_2, hT, hwi, hnt1, hT1, hU1P]; intro w' hbel; refine Done.out ?_)
    | (clear hN N; first | (refine hN _ ?_; clear hN N) | (clear hN N; refine hN _ ?_; clear hN N))
    | ((first | refine SX.cond rfl (fun hb => ?_) (fun hb => ?_) | (refine bif2.mk (fun hb => ?_) (fun hb => ?_) <;> (try simp only [hb, GA, ↓GB, GX, simprocAttr, hnt, hT, hnt1, hT1, hU1P]))) <;> ((first | cases hb | (simp only [HBs] at hb) | skip) <;> (first | (exfalso; omega) | skip)))
    | ((first | (refine CallVC.pv hP (compare_int _ _) rfl ?_) | (refine CallQ.pv hP (compare_int _ _) rfl ?_) | (refine CallVC.pv hP (compare_str _ _) rfl ?_) | (refine CallQ.pv hP (compare_str _ _) rfl ?_)); simp only [GA, ↓GB, GX, simprocAttr, hnt, hT, hnt1, hT1, hU1P])
    | (refine CallVC.inline (f := 119) ?_ rfl Tryd.ntmps119 rfl ?_ ?_; (focus rw [hP]; exact Tryd.func119); (focus simp); have hT1 := Ty.T119 hP; intro X1 K1 hU1 hnt1 hbl1 hK1; have hU1P := hU1.P; simp only [GA, ↓GB, GX, simprocAttr] at hbl1 ⊢)
    | (refine SX.loopN 3 ?_)
    | (refine SXr.stepK ?_; intro N hN)
    | ((first | (refine CallVC.pv (hU1P.trans hP) (compare_int _ _) rfl ?_) | (refine CallQ.pv (hU1P.trans hP) (compare_int _ _) rfl ?_) | (refine CallVC.pv (hU1P.trans hP) (compare_str _ _) rfl ?_) | (refine CallQ.pv (hU1P.trans hP) (compare_str _ _) rfl ?_)); simp only [GA, ↓GB, GX, simprocAttr, hnt, hT, hnt1, hT1, hU1P])
    | (refine SX.block ?_)
    | (refine and_mk ?_ ?_; (focus first | decide | omega | rfl | assumption | (simp only [LBs]; omega) | (simp; done)))
    | (refine And.intro ?_ ?_))
  all_goals (try refine Done.mk ?_)
  all_goals (refine ⟨?_, hbel⟩; simp_all [cmpKey])
end Go.Proofs.YtbdacbcpniegiaaDoor
namespace Go.Proofs
open Go.Shelf
def Tryd.lays160_ren : Go.Shelf.Ren := ⟨fun | 160 => 140 | 232 => 156 | 231 => 155 | 227 => 157 | 234 => 159 | 233 => 158 | 236 => 161 | 235 => 160 | 228 => 168 | 271 => 171 | 151 => 170 | 197 => 169 | 120 => 176 | 152 => 175 | 260 => 174 | 137 => 177 | 119 => 178 | 224 => 179 | 225 => 180 | 217 => 181 | 266 => 182 | n => n, fun | 9 => 9 | 4 => 4 | 3 => 3 | 5 => 5 | 117 => 221 | 116 => 220 | 0 => 0 | 124 => 224 | 21 => 21 | 105 => 241 | 46 => 164 | 119 => 246 | 139 => 249 | 138 => 248 | n => n, fun | 3 => 4 | 4 => 5 | n => n⟩
theorem Tryd.lays160 : Lays.n160 Tryd.prog Tryd.lays160_ren := {
  mixed := by kernel_rfl,
  f119 := Tryd.func178.trans (congrArg some (by kernel_rfl)),
  f120 := Tryd.func176.trans (congrArg some (by kernel_rfl)),
  f137 := Tryd.func177.trans (congrArg some (by kernel_rfl)),
  f151 := Tryd.func170.trans (congrArg some (by kernel_rfl)),
  f152 := Tryd.func175.trans (congrArg some (by kernel_rfl)),
  f160 := Tryd.func140.trans (congrArg some (by kernel_rfl)),
  f197 := Tryd.func169.trans (congrArg some (by kernel_rfl)),
  f217 := Tryd.func181.trans (congrArg some (by kernel_rfl)),
  f224 := Tryd.func179.trans (congrArg some (by kernel_rfl)),
  f225 := Tryd.func180.trans (congrArg some (by kernel_rfl)),
  f227 := Tryd.func157.trans (congrArg some (by kernel_rfl)),
  f228 := Tryd.func168.trans (congrArg some (by kernel_rfl)),
  f231 := Tryd.func155.trans (congrArg some (by kernel_rfl)),
  f232 := Tryd.func156.trans (congrArg some (by kernel_rfl)),
  f233 := Tryd.func158.trans (congrArg some (by kernel_rfl)),
  f234 := Tryd.func159.trans (congrArg some (by kernel_rfl)),
  f235 := Tryd.func160.trans (congrArg some (by kernel_rfl)),
  f236 := Tryd.func161.trans (congrArg some (by kernel_rfl)),
  f260 := Tryd.func174.trans (congrArg some (by kernel_rfl)),
  f266 := Tryd.func182.trans (congrArg some (by kernel_rfl)),
  f271 := Tryd.func171.trans (congrArg some (by kernel_rfl)),
  t0 := Tryd.underlying0,
  a0 := Tryd.isAgg0,
  z0 := Tryd.sizeOf0,
  v0 := Tryd.zeroValue0,
  t3 := Tryd.underlying3,
  a3 := Tryd.isAgg3,
  z3 := Tryd.sizeOf3,
  v3 := Tryd.zeroValue3,
  t4 := Tryd.underlying4,
  a4 := Tryd.isAgg4,
  z4 := Tryd.sizeOf4,
  v4 := Tryd.zeroValue4,
  t5 := Tryd.underlying5,
  a5 := Tryd.isAgg5,
  z5 := Tryd.sizeOf5,
  v5 := Tryd.zeroValue5,
  t9 := Tryd.underlying9,
  a9 := Tryd.isAgg9,
  z9 := Tryd.sizeOf9,
  v9 := Tryd.zeroValue9,
  t21 := Tryd.underlying21,
  a21 := Tryd.isAgg21,
  z21 := Tryd.sizeOf21,
  v21 := Tryd.zeroValue21,
  t46 := Tryd.underlying164,
  a46 := Tryd.isAgg164,
  z46 := Tryd.sizeOf164,
  v46 := Tryd.zeroValue164,
  t105 := Tryd.underlying241,
  a105 := Tryd.isAgg241,
  z105 := Tryd.sizeOf241,
  v105 := Tryd.zeroValue241,
  t116 := Tryd.underlying220,
  a116 := Tryd.isAgg220,
  z116 := Tryd.sizeOf220,
  t117 := Tryd.underlying221,
  a117 := Tryd.isAgg221,
  z117 := Tryd.sizeOf221,
  v117 := Tryd.zeroValue221,
  t119 := Tryd.underlying246,
  a119 := Tryd.isAgg246,
  z119 := Tryd.sizeOf246,
  t124 := Tryd.underlying224,
  a124 := Tryd.isAgg224,
  z124 := Tryd.sizeOf224,
  v124 := Tryd.zeroValue224,
  t138 := Tryd.underlying248,
  a138 := Tryd.isAgg248,
  z138 := Tryd.sizeOf248,
  v138 := Tryd.zeroValue248,
  t139 := Tryd.underlying249,
  a139 := Tryd.isAgg249,
  z139 := Tryd.sizeOf249,
  v139 := Tryd.zeroValue249,
  g3 := by kernel_rfl,
  g4 := by kernel_rfl }
end Go.Proofs
namespace Go.Proofs.YtbdacbcpniegiaaDoor
open Go Go.RowKit Go.Proofs Go.Sx
def nameCs : List UInt8 := [97, 98, 99, 100, 101, 102, 103, 104, 105, 106, 107, 108, 109, 110, 111, 112, 113, 114, 115, 116, 117, 118, 119, 120, 121, 122, 48, 49, 50, 51, 52, 53, 54, 55, 56, 57, 45, 46, 47]
theorem trim_any (s : List UInt8) (hs : s.length ≤ 9223372036854775807) (w : World) : Calls Tryd.prog 140 #[.string (B s), .string (B nameCs)] w fun e w' => e = .returned (.string (B (Lib.trimS s nameCs))) ∧ Below w.heap.size w w' := by
  have h := Any.strings_Trim_laid Tryd.lays160 (by kernel_rfl) (B s) (B nameCs) w (by rw [B_size]; exact hs) (by decide) (ascii_of_all (by decide))
  exact h
end Go.Proofs.YtbdacbcpniegiaaDoor
namespace Go.Proofs.YtbdacbcpniegiaaDoor
open Go Go.RowKit Go.Proofs Go.Sx
def nameB (s : List UInt8) : Bool := !(s == []) && decide ((s.length : Int) ≤ 64) && (Lib.trimS s nameCs == [])
theorem name_any (s : List UInt8) (hs : s.length ≤ 9223372036854775807) (w : World) : Calls Tryd.prog 101 #[.string (B s)] w fun e w' => e = .returned (.bool (nameB s)) ∧ Below w.heap.size w w' := by
  refine calls_pureK (args := [.string (B s)]) w Tryd.func101 rfl Tryd.ntmps101 (by simp) ?_
  intro X K hX hK
  have hnt : X.nt = 15 := by rw [hX]
  have hwi : X.wi = w := by rw [hX]
  have hP : X.P = Tryd.prog := by rw [hX]
  have hown : X.own = [] := by rw [hX]
  have hbl : X.base.length = 0 := by rw [hX]; rfl
  clear hX
  have hT := Ty.T101 hP
  repeat' (first
    | (refine SX.seqK ?_; intro N hN)
    | ((first | (refine SX.ops ?_)); simp only [GA, ↓GB, GX, simprocAttr, hnt, hT])
    | ((first | refine SX.skip ?_ | refine SX.exit ?_ | refine SX.label ?_ | refine SX.ret ?_); try simp only [GA, ↓GB, GX, simprocAttr])
    | (refine hN _ ?_; clear hN N)
    | (refine hK _ _ (Fin.res rfl hown ?_); simp only [GA, ↓GB, GX, simprocAttr, f_a, f_b, f_n, f_c, f_B, f_v, f_g, f_0, f_1, f_2, hT, hwi]; intro w' hbel; refine Done.out ?_)
    | (refine bif2.mk (fun hb => ?_) (fun hb => ?_) <;> (try simp only [hb, GA, ↓GB, GX, simprocAttr, hnt, hT]) <;> ((first | cases hb | (simp only [HBs] at hb) | skip) <;> (first | (exfalso; omega) | skip)))
    | ((first | (refine CallVC.pv hP (trim_any _ (by omega)) rfl ?_) | (refine CallQ.pv hP (trim_any _ (by omega)) rfl ?_)); simp only [GA, ↓GB, GX, simprocAttr, hnt, hT])
    | (refine and_mk ?_ ?_; (focus first | decide | omega | rfl | assumption | (simp only [LBs]; omega) | (simp; done)))
    | (refine And.intro ?_ ?_))
  all_goals (try refine Done.mk ?_)
  all_goals (refine ⟨?_, hbel⟩; simp_all [nameB] <;> (intros; omega))
def keyB (t : Int) (s : List UInt8) : Bool := decide (1 ≤ t) && decide (t ≤ 5) && (s == [42] || nameB s)
theorem key_any (t : Int) (s : List UInt8) (hs : s.length ≤ 9223372036854775807) (w : World) : Calls Tryd.prog 78 #[.agg #[.int .i64 t, .string (B s)]] w fun e w' => e = .returned (.bool (keyB t s)) ∧ Below w.heap.size w w' := by
  refine calls_pureK (args := [.agg #[.int .i64 t, .string (B s)]]) w Tryd.func78 rfl Tryd.ntmps78 (by simp) ?_
  intro X K hX hK
  have hnt : X.nt = 21 := by rw [hX]
  have hwi : X.wi = w := by rw [hX]
  have hP : X.P = Tryd.prog := by rw [hX]
  have hown : X.own = [] := by rw [hX]
  have hbl : X.base.length = 0 := by rw [hX]; rfl
  clear hX
  have hT := Ty.T78 hP
  repeat' (first
    | (refine SX.seqK ?_; intro N hN)
    | ((first | (refine SX.ops ?_)); simp only [GA, ↓GB, GX, simprocAttr, hnt, hT])
    | ((first | refine SX.skip ?_ | refine SX.exit ?_ | refine SX.label ?_ | refine SX.ret ?_); try simp only [GA, ↓GB, GX, simprocAttr])
    | (refine hN _ ?_; clear hN N)
    | (refine hK _ _ (Fin.res rfl hown ?_); simp only [GA, ↓GB, GX, simprocAttr, f_a, f_b, f_n, f_c, f_B, f_v, f_g, f_0, f_1, f_2, hT, hwi]; intro w' hbel; refine Done.out ?_)
    | (refine bif2.mk (fun hb => ?_) (fun hb => ?_) <;> (try simp only [hb, GA, ↓GB, GX, simprocAttr, hnt, hT]) <;> ((first | cases hb | (simp only [HBs] at hb) | skip) <;> (first | (exfalso; omega) | skip)))
    | ((first | (refine CallVC.pv hP (name_any _ hs) rfl ?_) | (refine CallQ.pv hP (name_any _ hs) rfl ?_)); simp only [GA, ↓GB, GX, simprocAttr, hnt, hT])
    | (refine and_mk ?_ ?_; (focus first | decide | omega | rfl | assumption | (simp only [LBs]; omega) | (simp; done)))
    | (refine And.intro ?_ ?_))
  all_goals (try refine Done.mk ?_)
  all_goals (refine ⟨?_, hbel⟩; simp_all [keyB] <;> (intros; omega))
end Go.Proofs.YtbdacbcpniegiaaDoor
namespace Go.Proofs.YtbdacbcpniegiaaDoor
open Go Go.RowKit Go.Proofs Go.Sx
end Go.Proofs.YtbdacbcpniegiaaDoor
namespace Go.Proofs.YtbdacbcpniegiaaDoor
open Go Go.RowKit Go.Proofs Go.Sx
def numB (num n : Nat) : List UInt8 := NW.varint (num * 8) ++ NW.varint n
def textB (num : Nat) (s : List UInt8) : List UInt8 := NW.varint (num * 8 + 2) ++ NW.varint s.length ++ s
theorem put_num (num n : Nat) (h1 : 1 ≤ num) (h2 : num < 536870912) (hn : n < 18446744073709551616) (w : World) :
    Calls Tryd.prog 74 #[.agg #[.int .i64 num, .int .i64 0, .int .u64 n, .string (B [])]] w fun e w' => e = .returned (.tuple #[.string (B (numB num n)), .bool true]) ∧ Below w.heap.size w w' := by
  have g1 : decide ((num : Int) < 1) = false := by simp; omega
  have g2 : decide ((536870912 : Int) ≤ num) = false := by simp; omega
  have hl1 := NW.varint_len10 (n := num * 8) (by omega)
  have hl2 := NW.varint_len10 (n := n) (by omega)
  have e1 : IntKind.u64.wrap (IntKind.i64.wrap (IntKind.i64.wrap ((num : Int) * 8) + 0)) = ((num * 8 : Nat) : Int) := by
    rw [wI64 (x := (num : Int) * 8) (by omega) (by omega), wI64 (by omega) (by omega), wU64 (by omega) (by omega)]; omega
  refine calls_pureK (args := [.agg #[.int .i64 num, .int .i64 0, .int .u64 n, .string (B [])]]) w Tryd.func74 rfl Tryd.ntmps74 (by simp) ?_
  intro X K hX hK
  have hnt : X.nt = 81 := by rw [hX]
  have hwi : X.wi = w := by rw [hX]
  have hP : X.P = Tryd.prog := by rw [hX]
  have hown : X.own = [] := by rw [hX]
  have hbl : X.base.length = 0 := by rw [hX]; rfl
  clear hX
  have hT := Ty.T74 hP
  have hnt1 := True.intro; have hT1 := True.intro; have hU1P := True.intro
  repeat' (first
    | (refine SX.seqK ?_; intro N hN)
    | ((first | (refine SX.ops ?_)); simp only [GA, ↓GB, GX, simprocAttr, hnt, hT, hnt1, hT1, hU1P, g1, g2, e1])
    | ((first | refine SX.skip ?_ | refine SX.exit ?_ | refine SX.label ?_ | refine SX.ret ?_); try simp only [GA, ↓GB, GX, simprocAttr])
    | (refine hN _ ?_; clear hN N)
    | ((first | refine hK1 _ _ (FinI.ret3 ?_) | refine hK1 _ _ (FinI.nrm3 ?_)); (repeat (clear hN N)); clear hK1 K1; simp only [GA, ↓GB, GX, simprocAttr, finP_s, hnt, hT, hnt1, hT1, hU1P, g1, g2, e1])
    | (refine hK _ _ (Fin.res rfl hown ?_); simp only [GA, ↓GB, GX, simprocAttr, f_a, f_b, f_n, f_c, f_B, f_v, f_g, f_0, f_1, f_2, hT, hwi, hnt1, hT1, hU1P, g1, g2, e1]; intro w' hbel; refine Done.out ?_)
    | ((first | refine SX.cond rfl (fun hb => ?_) (fun hb => ?_) | (refine bif2.mk (fun hb => ?_) (fun hb => ?_) <;> (try simp only [hb, GA, ↓GB, GX, simprocAttr, hnt, hT, hnt1, hT1, hU1P, g1, g2, e1]))) <;> ((first | cases hb | (simp only [HBs] at hb) | skip) <;> (first | (exfalso; omega) | skip)))
    | ((first | (refine CallVC.pv hP (varint_any (num * 8) (by omega)) rfl ?_) | (refine CallQ.pv hP (varint_any (num * 8) (by omega)) rfl ?_) | (refine CallVC.pv hP (varint_any n hn) rfl ?_) | (refine CallQ.pv hP (varint_any n hn) rfl ?_)); simp only [GA, ↓GB, GX, simprocAttr, hnt, hT, hnt1, hT1, hU1P, g1, g2, e1])
    | (refine CallVC.inline (f := 127) ?_ rfl Tryd.ntmps127 rfl ?_ ?_; (focus rw [hP]; exact Tryd.func127); (focus simp); have hT1 := Ty.T127 hP; intro X1 K1 hU1 hnt1 hbl1 hK1; have hU1P := hU1.P; simp only [GA, ↓GB, GX, simprocAttr] at hbl1 ⊢)
    | ((first | (refine CallVC.pv (hU1P.trans hP) (varint_any (num * 8) (by omega)) rfl ?_) | (refine CallQ.pv (hU1P.trans hP) (varint_any (num * 8) (by omega)) rfl ?_) | (refine CallVC.pv (hU1P.trans hP) (varint_any n hn) rfl ?_) | (refine CallQ.pv (hU1P.trans hP) (varint_any n hn) rfl ?_)); simp only [GA, ↓GB, GX, simprocAttr, hnt, hT, hnt1, hT1, hU1P, g1, g2, e1])
    | (refine SX.block ?_)
    | (refine and_mk ?_ ?_; (focus first | decide | omega | rfl | assumption | (simp only [LBs]; omega) | (simp; done)))
    | (refine And.intro ?_ ?_))
  all_goals (try refine Done.mk ?_)
  all_goals first | exact hbel | exact ⟨by simp [numB], hbel⟩
theorem put_text (num : Nat) (s : List UInt8) (h1 : 1 ≤ num) (h2 : num < 536870912) (hs : s.length < 1152921504606846976) (w : World) :
    Calls Tryd.prog 74 #[.agg #[.int .i64 num, .int .i64 2, .int .u64 0, .string (B s)]] w fun e w' => e = .returned (.tuple #[.string (B (textB num s)), .bool true]) ∧ Below w.heap.size w w' := by
  have g1 : decide ((num : Int) < 1) = false := by simp; omega
  have g2 : decide ((536870912 : Int) ≤ num) = false := by simp; omega
  have hl1 := NW.varint_len10 (n := num * 8 + 2) (by omega)
  have hl2 := NW.varint_len10 (n := s.length) (by omega)
  have e1 : IntKind.u64.wrap (IntKind.i64.wrap (IntKind.i64.wrap ((num : Int) * 8) + 2)) = ((num * 8 + 2 : Nat) : Int) := by
    rw [wI64 (x := (num : Int) * 8) (by omega) (by omega), wI64 (by omega) (by omega), wU64 (by omega) (by omega)]; omega
  have e2 : IntKind.u64.wrap (s.length : Int) = (s.length : Int) := wU64 (by omega) (by omega)
  refine calls_pureK (args := [.agg #[.int .i64 num, .int .i64 2, .int .u64 0, .string (B s)]]) w Tryd.func74 rfl Tryd.ntmps74 (by simp) ?_
  intro X K hX hK
  have hnt : X.nt = 81 := by rw [hX]
  have hwi : X.wi = w := by rw [hX]
  have hP : X.P = Tryd.prog := by rw [hX]
  have hown : X.own = [] := by rw [hX]
  have hbl : X.base.length = 0 := by rw [hX]; rfl
  clear hX
  have hT := Ty.T74 hP
  have hnt1 := True.intro; have hT1 := True.intro; have hU1P := True.intro
  repeat' (first
    | (refine SX.seqK ?_; intro N hN)
    | ((first | (refine SX.ops ?_)); simp only [GA, ↓GB, GX, simprocAttr, hnt, hT, hnt1, hT1, hU1P, g1, g2, e1, e2])
    | ((first | refine SX.skip ?_ | refine SX.exit ?_ | refine SX.label ?_ | refine SX.ret ?_); try simp only [GA, ↓GB, GX, simprocAttr])
    | (refine hN _ ?_; clear hN N)
    | ((first | refine hK1 _ _ (FinI.ret3 ?_) | refine hK1 _ _ (FinI.nrm3 ?_)); (repeat (clear hN N)); clear hK1 K1; simp only [GA, ↓GB, GX, simprocAttr, finP_s, hnt, hT, hnt1, hT1, hU1P, g1, g2, e1, e2])
    | (refine hK _ _ (Fin.res rfl hown ?_); simp only [GA, ↓GB, GX, simprocAttr, f_a, f_b, f_n, f_c, f_B, f_v, f_g, f_0, f_1, f_2, hT, hwi, hnt1, hT1, hU1P, g1, g2, e1, e2]; intro w' hbel; refine Done.out ?_)
    | ((first | refine SX.cond rfl (fun hb => ?_) (fun hb => ?_) | (refine bif2.mk (fun hb => ?_) (fun hb => ?_) <;> (try simp only [hb, GA, ↓GB, GX, simprocAttr, hnt, hT, hnt1, hT1, hU1P, g1, g2, e1, e2]))) <;> ((first | cases hb | (simp only [HBs] at hb) | skip) <;> (first | (exfalso; omega) | skip)))
    | ((first | (refine CallVC.pv hP (varint_any (num * 8 + 2) (by omega)) rfl ?_) | (refine CallQ.pv hP (varint_any (num * 8 + 2) (by omega)) rfl ?_) | (refine CallVC.pv hP (varint_any s.length (by omega)) rfl ?_) | (refine CallQ.pv hP (varint_any s.length (by omega)) rfl ?_)); simp only [GA, ↓GB, GX, simprocAttr, hnt, hT, hnt1, hT1, hU1P, g1, g2, e1, e2])
    | (refine CallVC.inline (f := 127) ?_ rfl Tryd.ntmps127 rfl ?_ ?_; (focus rw [hP]; exact Tryd.func127); (focus simp); have hT1 := Ty.T127 hP; intro X1 K1 hU1 hnt1 hbl1 hK1; have hU1P := hU1.P; simp only [GA, ↓GB, GX, simprocAttr] at hbl1 ⊢)
    | ((first | (refine CallVC.pv (hU1P.trans hP) (varint_any (num * 8 + 2) (by omega)) rfl ?_) | (refine CallQ.pv (hU1P.trans hP) (varint_any (num * 8 + 2) (by omega)) rfl ?_) | (refine CallVC.pv (hU1P.trans hP) (varint_any s.length (by omega)) rfl ?_) | (refine CallQ.pv (hU1P.trans hP) (varint_any s.length (by omega)) rfl ?_)); simp only [GA, ↓GB, GX, simprocAttr, hnt, hT, hnt1, hT1, hU1P, g1, g2, e1, e2])
    | (refine SX.block ?_)
    | (refine and_mk ?_ ?_; (focus first | decide | omega | rfl | assumption | (simp only [LBs]; omega) | (simp; done)))
    | (refine And.intro ?_ ?_))
  all_goals (try refine Done.mk ?_)
  all_goals first | exact hbel | exact ⟨by simp [textB], hbel⟩
theorem number_any (num n : Nat) (h1 : 1 ≤ num) (h2 : num < 536870912) (hn : n < 18446744073709551616) (w : World) :
    Calls Tryd.prog 23 #[.int .i64 num, .int .u64 n] w fun e w' => e = .returned (.string (B (numB num n))) ∧ Below w.heap.size w w' := by
  refine calls_pureK (args := [.int .i64 num, .int .u64 n]) w Tryd.func23 rfl Tryd.ntmps23 (by simp) ?_
  intro X K hX hK
  have hnt : X.nt = 15 := by rw [hX]
  have hwi : X.wi = w := by rw [hX]
  have hP : X.P = Tryd.prog := by rw [hX]
  have hown : X.own = [] := by rw [hX]
  have hbl : X.base.length = 0 := by rw [hX]; rfl
  clear hX
  have hT := Ty.T23 hP
  repeat' (first
    | (refine SX.seqK ?_; intro N hN)
    | ((first | (refine SX.ops ?_)); simp only [GA, ↓GB, GX, simprocAttr, hnt, hT])
    | ((first | refine SX.skip ?_ | refine SX.exit ?_ | refine SX.label ?_ | refine SX.ret ?_); try simp only [GA, ↓GB, GX, simprocAttr])
    | (refine hN _ ?_; clear hN N)
    | (refine hK _ _ (Fin.res rfl hown ?_); simp only [GA, ↓GB, GX, simprocAttr, f_a, f_b, f_n, f_c, f_B, f_v, f_g, f_0, f_1, f_2, hT, hwi]; intro w' hbel; refine Done.out ?_)
    | (refine bif2.mk (fun hb => ?_) (fun hb => ?_) <;> (try simp only [hb, GA, ↓GB, GX, simprocAttr, hnt, hT]) <;> ((first | cases hb | (simp only [HBs] at hb) | skip) <;> (first | (exfalso; omega) | skip)))
    | ((first | (refine CallVC.pt (l := [_, _]) hP (put_num num n h1 h2 hn) rfl ?_) | (refine CallQ.pt (l := [_, _]) hP (put_num num n h1 h2 hn) rfl ?_)); simp only [GA, ↓GB, GX, simprocAttr, hnt, hT])
    | (refine and_mk ?_ ?_; (focus first | decide | omega | rfl | assumption | (simp only [LBs]; omega) | (simp; done)))
    | (refine And.intro ?_ ?_))
  all_goals (try refine Done.mk ?_)
  all_goals first | exact hbel | exact ⟨rfl, hbel⟩
theorem text_any (num : Nat) (s : List UInt8) (h1 : 1 ≤ num) (h2 : num < 536870912) (hs : s.length < 1152921504606846976) (w : World) :
    Calls Tryd.prog 104 #[.int .i64 num, .string (B s)] w fun e w' => e = .returned (.string (B (textB num s))) ∧ Below w.heap.size w w' := by
  refine calls_pureK (args := [.int .i64 num, .string (B s)]) w Tryd.func104 rfl Tryd.ntmps104 (by simp) ?_
  intro X K hX hK
  have hnt : X.nt = 13 := by rw [hX]
  have hwi : X.wi = w := by rw [hX]
  have hP : X.P = Tryd.prog := by rw [hX]
  have hown : X.own = [] := by rw [hX]
  have hbl : X.base.length = 0 := by rw [hX]; rfl
  clear hX
  have hT := Ty.T104 hP
  repeat' (first
    | (refine SX.seqK ?_; intro N hN)
    | ((first | (refine SX.ops ?_)); simp only [GA, ↓GB, GX, simprocAttr, hnt, hT])
    | ((first | refine SX.skip ?_ | refine SX.exit ?_ | refine SX.label ?_ | refine SX.ret ?_); try simp only [GA, ↓GB, GX, simprocAttr])
    | (refine hN _ ?_; clear hN N)
    | (refine hK _ _ (Fin.res rfl hown ?_); simp only [GA, ↓GB, GX, simprocAttr, f_a, f_b, f_n, f_c, f_B, f_v, f_g, f_0, f_1, f_2, hT, hwi]; intro w' hbel; refine Done.out ?_)
    | (refine bif2.mk (fun hb => ?_) (fun hb => ?_) <;> (try simp only [hb, GA, ↓GB, GX, simprocAttr, hnt, hT]) <;> ((first | cases hb | (simp only [HBs] at hb) | skip) <;> (first | (exfalso; omega) | skip)))
    | ((first | (refine CallVC.pt (l := [_, _]) hP (put_text num s h1 h2 hs) rfl ?_) | (refine CallQ.pt (l := [_, _]) hP (put_text num s h1 h2 hs) rfl ?_)); simp only [GA, ↓GB, GX, simprocAttr, hnt, hT])
    | (refine and_mk ?_ ?_; (focus first | decide | omega | rfl | assumption | (simp only [LBs]; omega) | (simp; done)))
    | (refine And.intro ?_ ?_))
  all_goals (try refine Done.mk ?_)
  all_goals first | exact hbel | exact ⟨rfl, hbel⟩
end Go.Proofs.YtbdacbcpniegiaaDoor
namespace Go.Proofs.YtbdacbcpniegiaaDoor
open Go Go.RowKit Go.Proofs Go.Sx
end Go.Proofs.YtbdacbcpniegiaaDoor
namespace Go.Proofs.YtbdacbcpniegiaaDoor
open Go Go.RowKit Go.Proofs Go.Sx
end Go.Proofs.YtbdacbcpniegiaaDoor
namespace Go.Proofs.YtbdacbcpniegiaaDoor
open Go Go.RowKit Go.Proofs Go.Sx
theorem numB_len (num n : Nat) (h1 : num < 536870912) (hn : n < 18446744073709551616) : (numB num n).length ≤ 20 := by
  have hl1 := NW.varint_len10 (n := num * 8) (by omega)
  have hl2 := NW.varint_len10 (n := n) (by omega)
  simp [numB]; omega
theorem textB_len (num : Nat) (s : List UInt8) (h1 : num < 536870912) (hs : s.length < 4294967296) : (textB num s).length ≤ 20 + s.length := by
  have hl1 := NW.varint_len10 (n := num * 8 + 2) (by omega)
  have hl2 := NW.varint_len10 (n := s.length) (by omega)
  simp [textB]; omega
end Go.Proofs.YtbdacbcpniegiaaDoor
namespace Go.Proofs.YtbdacbcpniegiaaDoor
open Go Go.RowKit Go.Proofs Go.Sx
end Go.Proofs.YtbdacbcpniegiaaDoor
namespace Go.Sx
open Go Go.RowKit Go.MapKept
inductive Put (k : Value) (s : S1) : List (Value × S1) → List (Value × S1) → Prop
  | nil : Put k s [] [(k, s)]
  | hit {p es} : k = p.1 → Put k s (p :: es) ((k, s) :: es)
  | miss {p es es'} : k ≠ p.1 → Put k s es es' → Put k s (p :: es) (p :: es')
theorem sameBits_key {d : TypeDesc} {k : Value} (hk : KeyOf d k = true) : Instr.sameBits 10000 k k = true := by
  unfold KeyOf at hk
  split at hk
  · simp [Instr.sameBits]
  · unfold Instr.sameBits; exact (bytes_beq _ _).2 rfl
  · cases hk
abbrev MR (σ : List Value) (p : Value × S1) (m : MapEntry) : Prop := m.key = p.1 ∧ D1 σ p.2 m.val
theorem findNow_put {σ : List Value} {d : TypeDesc} {k v : Value} {s : S1} (hk : KeyOf d k = true) (hd : D1 σ s v) : ∀ {es es' : List (Value × S1)} {ms : List MapEntry} (i : Nat),
    All2 (MR σ) es ms → (es.all fun p => KeyOf d p.1) = true → Put k s es es' →
    (Instr.findNow d k ms i = some none ∧ ∀ clock, All2 (MR σ) es' (ms ++ [⟨k, v, clock⟩])) ∨
    (∃ j v0 e0, Instr.findNow d k ms i = some (some (i + j, v0)) ∧ ms[j]? = some e0 ∧ e0.key = k ∧ All2 (MR σ) es' (ms.modify j fun e => { e with key := k, val := v }))
  | [], es', [], i, _, _, h => by cases h; exact .inl ⟨rfl, fun c => ⟨⟨rfl, hd⟩, trivial⟩⟩
  | p :: es, es', m :: ms, i, ha, hks, h => by
    simp only [List.all_cons, Bool.and_eq_true] at hks
    cases h with
    | hit e =>
      have : Instr.sameNow d k m.key = some true := sameNow_beq hk (by rw [ha.1.1]; exact hks.1) (by rw [ha.1.1]; simp [e])
      refine .inr ⟨0, m.val, m, by simp [Instr.findNow, this], rfl, ha.1.1.trans e.symm, ?_⟩
      exact ⟨⟨rfl, hd⟩, ha.2⟩
    | miss e h =>
      have : Instr.sameNow d k m.key = some false := sameNow_beq hk (by rw [ha.1.1]; exact hks.1) (by rw [ha.1.1]; simp [e])
      rcases findNow_put hk hd (i + 1) ha.2 hks.2 h with ⟨h1, h2⟩ | ⟨j, v0, e0, h1, h2, h3, h4⟩
      · exact .inl ⟨by simp [Instr.findNow, this, h1], fun c => ⟨ha.1, h2 c⟩⟩
      · refine .inr ⟨j + 1, v0, e0, by simp [Instr.findNow, this, h1]; omega, by simpa using h2, h3, ?_⟩
        rw [List.modify_succ_cons]
        exact ⟨ha.1, h4⟩
  | [], _, _ :: _, _, h, _, _ => h.elim
  | _ :: _, _, [], _, h, _, _ => h.elim
open Classical in
noncomputable def repl (k v : Value) (e : MapEntry) : MapEntry := if e.key = k then { e with key := k, val := v } else e
theorem modify_map {k v : Value} : ∀ {ms : List MapEntry} {j : Nat} {e : MapEntry}, (ms.map (·.key)).Nodup → ms[j]? = some e → e.key = k → (ms.modify j fun e => { e with key := k, val := v }) = ms.map (repl k v)
  | [], j, e, _, h, _ => by simp at h
  | m :: ms, 0, e, hn, h, hk => by
    rw [List.map_cons, List.nodup_cons] at hn
    simp at h
    subst h
    rw [List.modify_zero_cons, List.map_cons]
    congr 1
    · simp [repl, hk]
    · symm
      rw [List.map_congr_left (g := id), List.map_id]
      intro x hx
      have : x.key ≠ k := fun e => hn.1 (List.mem_map.2 ⟨x, hx, e.trans hk.symm⟩)
      simp [repl, this]
  | m :: ms, j + 1, e, hn, h, hk => by
    rw [List.map_cons, List.nodup_cons] at hn
    rw [List.modify_succ_cons, List.map_cons, modify_map hn.2 (by simpa using h) hk]
    congr 1
    have he : e ∈ ms := List.mem_of_getElem? (by simpa using h)
    have : m.key ≠ k := fun e' => hn.1 (List.mem_map.2 ⟨e, he, hk.trans e'.symm⟩)
    simp [repl, this]
section
variable {X : Ctx} {c : Cfg} {N : Cfg → Prop} {ty : TypeId} {pos : String} {af : Array Edge} {g : Option (Nat × Bool)}
theorem VO.mapSet {t kt et i : Nat} {m k x : Operand} {kv : Value} {s : S1} {es es' : List (Value × S1)} {kd : TypeDesc} (hm : c.ev m = .one (.c (.row i))) (hi : c.loc[i]? = some (.map es)) (hk : c.ev k = vv kv) (hx : c.ev x = .one s)
    (ht : X.P.underlying t = some (.map kt et)) (hkt : X.P.underlying kt = some kd) (hkv : KeyOf kd kv = true) (hks : (es.all fun p => KeyOf kd p.1) = true) (hp : Put kv s es es')
    (h : N { c with loc := c.loc.set i (.map es') }) : VO X ⟨none, .mapUpdate t m k x, ty, pos, af, g⟩ c N :=
  .of_skip rfl fun ρ σ a w hr => by
    have e1 := hr.ev m
    rw [hm] at e1
    have e1 : σ[i]? = some (a.eval m) := e1
    have e2 := hr.ev k
    rw [hk] at e2
    have e2 : a.eval k = kv := e2
    have e3 := hr.ev x
    rw [hx] at e3
    obtain ⟨b, ms, clock, ms', fp, hb, hm0, e0, hw, hpm, ha⟩ := hr.getMap hi e1
    obtain ⟨hpe, hnd⟩ := hpm
    have hkm : ∀ m ∈ ms.toList, KeyOf kd m.key = true := fun m hm => by
      obtain ⟨p, h1, h2, _⟩ := All2.memR ha m (hpe.mem_iff.2 hm)
      rw [h2]
      exact List.all_eq_true.1 hks p h1
    rcases findNow_put hkv e3 0 ha hks hp with ⟨hf0, hA⟩ | ⟨j0, v0, en0, hf0, h20, h30, hA⟩
    · have hno : ∀ m ∈ ms', m.key ≠ kv := by
        rcases findNow_mem hkv 0 (fun m hm => hkm m (hpe.mem_iff.1 hm)) with ⟨h1, _⟩ | ⟨j, e, _, _, h3⟩
        · exact h1
        · rw [hf0] at h3; cases h3
      have hf : Instr.findNow kd kv ms.toList 0 = some none := by
        rcases findNow_mem hkv 0 hkm with ⟨_, h2⟩ | ⟨j, e, h1, h2, _⟩
        · exact h2
        · exact absurd h2 (hno e (hpe.mem_iff.2 (List.mem_of_getElem? h1)))
      refine ⟨{ w with heap := w.heap.setIfInBounds b (.map (ms.push ⟨kv, a.eval x, clock⟩) (clock + 1)) }, _, ρ, σ, ?_, hr.setObj _ (List.getElem?_eq_some_iff.1 hi).1 hb hm0 e1 (o := .map es') ?_, h⟩
      · simp [execOp, e0, e2, Instr.mapUpdate, run_underlying ht, MapKept.run_getObj_map hw, run_checkKey hkt (isKey_of hkv), run_findKey hkt hf, MapKept.run_setObj_map _ hw, Result.andThen]
      · refine ⟨b, _, _, ms' ++ [⟨kv, a.eval x, clock⟩], e0, hm0, Array.getElem?_setIfInBounds_self_of_lt (Array.getElem?_eq_some_iff.1 hw).1, ⟨?_, ?_⟩, hA clock⟩
        · rw [Array.toList_push]; exact hpe.append_right _
        · rw [List.map_append, List.nodup_append]
          refine ⟨hnd, by simp, fun x hx y hy => ?_⟩
          obtain ⟨m, hm, rfl⟩ := List.mem_map.1 hx
          simp at hy
          subst hy
          exact hno m hm
    · have hme : en0 ∈ ms' := List.mem_of_getElem? h20
      obtain ⟨j, en, h2, h3, hf⟩ : ∃ j e, ms.toList[j]? = some e ∧ e.key = kv ∧ Instr.findNow kd kv ms.toList 0 = some (some (0 + j, e.val)) := by
        rcases findNow_mem hkv 0 hkm with ⟨h1, _⟩ | ⟨j, e, h1, h2, h3⟩
        · exact absurd h30 (h1 en0 (hpe.mem_iff.1 hme))
        · exact ⟨j, e, h1, h2, h3⟩
      rw [Nat.zero_add] at hf
      have h2' : ms[j]? = some en := by rw [← Array.getElem?_toList]; exact h2
      refine ⟨{ w with heap := w.heap.setIfInBounds b (.map (ms.modify j fun e => { e with key := kv, val := a.eval x }) clock) }, _, ρ, σ, ?_, hr.setObj _ (List.getElem?_eq_some_iff.1 hi).1 hb hm0 e1 (o := .map es') ?_, h⟩
      · simp [execOp, e0, e2, Instr.mapUpdate, run_underlying ht, MapKept.run_getObj_map hw, run_checkKey hkt (isKey_of hkv), run_findKey hkt hf, MapKept.run_setObj_map _ hw, Result.andThen, h2', h3, Instr.keyThatStays, sameBits_key hkv]
      · have hndm : (ms.toList.map (·.key)).Nodup := (hpe.map _).nodup_iff.1 hnd
        refine ⟨b, _, _, ms'.modify j0 fun e => { e with key := kv, val := a.eval x }, e0, hm0, Array.getElem?_setIfInBounds_self_of_lt (Array.getElem?_eq_some_iff.1 hw).1, ⟨?_, ?_⟩, hA⟩
        · rw [Array.toList_modify, modify_map hnd h20 h30, modify_map hndm h2 h3]
          exact hpe.map _
        · rw [modify_map hnd h20 h30, List.map_map]
          have : ((fun e : MapEntry => e.key) ∘ repl kv (a.eval x)) = fun e => e.key := by
            funext e; simp only [Function.comp, repl]; split
            · rename_i h; exact h.symm
            · rfl
          rw [this]; exact hnd
end
end Go.Sx
namespace Go.Proofs.YtbdacbcpniegiaaDoor
open Go Go.RowKit Go.Proofs Go.Sx
structure Rs where
  t : Int
  s : List UInt8
  q : Nat
  g : Bool
  b : List UInt8
deriving Inhabited, DecidableEq
def rightB (r : Rs) : Bool := keyB r.t r.s && !(r.s == [42]) && decide ((r.b.length : Int) ≤ 1024) && !(r.g && !(r.b == [])) && decide (0 < (r.q : Int)) && decide ((r.q : Int) ≤ 4611686018427387904)
def Rs.cells (r : Rs) : List Value := [.int .i64 r.t, .string (B r.s), .int .u64 r.q, .bool r.g, .string (B r.b)]
theorem right_any (r : Rs) (hs : r.s.length ≤ 9223372036854775807) (w : World) :
    Calls Tryd.prog 51 #[.agg #[.int .i64 r.t, .string (B r.s), .int .u64 r.q, .bool r.g, .string (B r.b)]] w fun e w' => e = .returned (.bool (rightB r)) ∧ Below w.heap.size w w' := by
  refine calls_pureK (args := [.agg #[.int .i64 r.t, .string (B r.s), .int .u64 r.q, .bool r.g, .string (B r.b)]]) w Tryd.func51 rfl Tryd.ntmps51 (by simp) ?_
  intro X K hX hK
  have hnt : X.nt = 38 := by rw [hX]
  have hwi : X.wi = w := by rw [hX]
  have hP : X.P = Tryd.prog := by rw [hX]
  have hown : X.own = [] := by rw [hX]
  have hbl : X.base.length = 0 := by rw [hX]; rfl
  clear hX
  have hT := Ty.T51 hP
  repeat' (first
    | (refine SX.seqK ?_; intro N hN)
    | ((first | (refine SX.ops ?_)); simp only [GA, ↓GB, GX, simprocAttr, hnt, hT])
    | ((first | refine SX.skip ?_ | refine SX.exit ?_ | refine SX.label ?_ | refine SX.ret ?_); try simp only [GA, ↓GB, GX, simprocAttr])
    | (refine hN _ ?_; clear hN N)
    | (refine hK _ _ (Fin.res rfl hown ?_); simp only [GA, ↓GB, GX, simprocAttr, f_a, f_b, f_n, f_c, f_B, f_v, f_g, f_0, f_1, f_2, hT, hwi]; intro w' hbel; refine Done.out ?_)
    | (refine bif2.mk (fun hb => ?_) (fun hb => ?_) <;> (try simp only [hb, GA, ↓GB, GX, simprocAttr, hnt, hT]) <;> ((first | cases hb | (simp only [HBs] at hb) | skip) <;> (first | (exfalso; omega) | skip)))
    | ((first | (refine CallVC.pv hP (key_any _ _ hs) rfl ?_) | (refine CallQ.pv hP (key_any _ _ hs) rfl ?_)); simp only [GA, ↓GB, GX, simprocAttr, hnt, hT])
    | (refine and_mk ?_ ?_; (focus first | decide | omega | rfl | assumption | (simp only [LBs]; omega) | (simp; done)))
    | (refine And.intro ?_ ?_))
  all_goals (try refine Done.mk ?_)
  all_goals (refine ⟨?_, hbel⟩; clear hK hT hP hnt hwi hown hbl; simp_all [rightB] <;> (intros; omega))
def resB (r : Rs) (t : Nat) : List UInt8 := numB 1 t ++ textB 2 r.s ++ numB 3 r.q ++ (if r.g then numB 4 1 else []) ++ (if r.b = [] then [] else textB 5 r.b)
theorem right_type {r : Rs} (h : rightB r = true) : 1 ≤ r.t ∧ r.t ≤ 5 ∧ r.s.length ≤ 64 ∧ r.b.length ≤ 1024 ∧ 0 < r.q ∧ r.q ≤ 4611686018427387904 := by
  simp only [rightB, keyB, nameB, Bool.and_eq_true, Bool.or_eq_true, decide_eq_true_eq, beq_iff_eq] at h
  obtain ⟨⟨⟨⟨⟨⟨⟨h1, h2⟩, h3⟩, _⟩, h4⟩, _⟩, h5⟩, h6⟩ := h
  refine ⟨h1, h2, ?_, by omega, by omega, by omega⟩
  rcases h3 with h3 | h3
  · rw [h3]; decide
  · omega
theorem put_no (r : Rs) (hs : r.s.length ≤ 9223372036854775807) (h : rightB r = false) (w : World) :
    Calls Tryd.prog 45 #[.agg #[.int .i64 r.t, .string (B r.s), .int .u64 r.q, .bool r.g, .string (B r.b)]] w fun e w' => e = .returned (.tuple #[.string (B []), .bool false]) ∧ Below w.heap.size w w' := by
  refine calls_pureK (args := [.agg #[.int .i64 r.t, .string (B r.s), .int .u64 r.q, .bool r.g, .string (B r.b)]]) w Tryd.func45 rfl Tryd.ntmps45 (by simp) ?_
  intro X K hX hK
  have hnt : X.nt = 36 := by rw [hX]
  have hwi : X.wi = w := by rw [hX]
  have hP : X.P = Tryd.prog := by rw [hX]
  have hown : X.own = [] := by rw [hX]
  have hbl : X.base.length = 0 := by rw [hX]; rfl
  clear hX
  have hT := Ty.T45 hP
  repeat' (first
    | (refine SX.seqK ?_; intro N hN)
    | ((first | (refine SX.ops ?_)); simp only [GA, ↓GB, GX, simprocAttr, hnt, hT, h])
    | ((first | refine SX.skip ?_ | refine SX.exit ?_ | refine SX.label ?_ | refine SX.ret ?_); try simp only [GA, ↓GB, GX, simprocAttr])
    | (refine hN _ ?_; clear hN N)
    | (refine hK _ _ (Fin.res rfl hown ?_); simp only [GA, ↓GB, GX, simprocAttr, f_a, f_b, f_n, f_c, f_B, f_v, f_g, f_0, f_1, f_2, hT, hwi, h]; intro w' hbel; refine Done.out ?_)
    | ((first | refine SX.cond rfl (fun hb => ?_) (fun hb => ?_) | (refine bif2.mk (fun hb => ?_) (fun hb => ?_) <;> (try simp only [hb, GA, ↓GB, GX, simprocAttr, hnt, hT, h]))) <;> ((first | cases hb | (simp only [HBs] at hb) | skip) <;> (first | (exfalso; omega) | skip)))
    | ((first | (refine CallVC.pv hP (right_any r hs) rfl ?_) | (refine CallQ.pv hP (right_any r hs) rfl ?_)); simp only [GA, ↓GB, GX, simprocAttr, hnt, hT, h])
    | (refine and_mk ?_ ?_; (focus first | decide | omega | rfl | assumption | (simp only [LBs]; omega) | (simp; done)))
    | (refine And.intro ?_ ?_))
  all_goals (try refine Done.mk ?_)
  all_goals exact hbel
theorem put_yes (r : Rs) (h : rightB r = true) (w : World) :
    Calls Tryd.prog 45 #[.agg #[.int .i64 r.t, .string (B r.s), .int .u64 r.q, .bool r.g, .string (B r.b)]] w fun e w' => e = .returned (.tuple #[.string (B (resB r r.t.toNat)), .bool true]) ∧ Below w.heap.size w w' := by
  obtain ⟨h1, h2, h3, h4, h5, h6⟩ := right_type h
  have hr := right_any r (by omega)
  obtain ⟨t, s, q, g, b⟩ := r
  simp only [] at h1 h2 h3 h4 h5 h6 hr
  obtain ⟨t, rfl⟩ : ∃ n : Nat, t = n := ⟨t.toNat, by omega⟩
  have e1 : IntKind.u64.wrap (t : Int) = (t : Int) := wU64 (by omega) (by omega)
  rw [Int.toNat_natCast]
  have n1 := numB_len 1 t (by decide) (by omega)
  have n2 := textB_len 2 s (by decide) (by omega)
  have n3 := numB_len 3 q (by decide) (by omega)
  have n4 := numB_len 4 1 (by decide) (by decide)
  have n5 := textB_len 5 b (by decide) (by omega)
  cases g with
  | true =>
    by_cases hb : b = []
    · subst hb
      refine calls_pureK (args := [.agg #[.int .i64 t, .string (B s), .int .u64 q, .bool true, .string (B [])]]) w Tryd.func45 rfl Tryd.ntmps45 (by simp) ?_
      intro X K hX hK
      have hnt : X.nt = 36 := by rw [hX]
      have hwi : X.wi = w := by rw [hX]
      have hP : X.P = Tryd.prog := by rw [hX]
      have hown : X.own = [] := by rw [hX]
      have hbl : X.base.length = 0 := by rw [hX]; rfl
      clear hX
      have hT := Ty.T45 hP
      repeat' (first
        | (refine SX.seqK ?_; intro N hN)
        | ((first | (refine SX.ops ?_) | (refine SX.planT (id := 3) [.q [(0, [1]), (1, [8]), (2, [9]), (3, [10]), (4, [11]), (5, [1]), (6, [13]), (7, [14]), (8, [15]), (9, [12, 16]), (10, [1]), (11, [18]), (12, [19]), (13, [17, 20]), (14, [21])] none] ?_ ?_ ?_; (focus first | (rw [hP]; kernel_rfl) | (rw [hU1P, hP]; kernel_rfl)); (focus kernel_rfl))); simp only [GA, ↓GB, GX, simprocAttr, hnt, hT, h, e1])
        | ((first | refine SX.skip ?_ | refine SX.exit ?_ | refine SX.label ?_ | refine SX.ret ?_); try simp only [GA, ↓GB, GX, simprocAttr])
        | (refine hN _ ?_; clear hN N)
        | (refine hK _ _ (Fin.res rfl hown ?_); simp only [GA, ↓GB, GX, simprocAttr, f_a, f_b, f_n, f_c, f_B, f_v, f_g, f_0, f_1, f_2, hT, hwi, h, e1]; intro w' hbel; refine Done.out ?_)
        | ((first | refine SX.cond rfl (fun hb => ?_) (fun hb => ?_) | (refine bif2.mk (fun hb => ?_) (fun hb => ?_) <;> (try simp only [hb, GA, ↓GB, GX, simprocAttr, hnt, hT, h, e1]))) <;> ((first | cases hb | (simp only [HBs] at hb) | skip) <;> (first | (exfalso; omega) | skip)))
        | ((first | (refine CallVC.pv hP (hr) rfl ?_) | (refine CallQ.pv hP (hr) rfl ?_) | (refine CallVC.pv hP (number_any 1 t (by decide) (by decide) (by omega)) rfl ?_) | (refine CallQ.pv hP (number_any 1 t (by decide) (by decide) (by omega)) rfl ?_) | (refine CallVC.pv hP (number_any 3 q (by decide) (by decide) (by omega)) rfl ?_) | (refine CallQ.pv hP (number_any 3 q (by decide) (by decide) (by omega)) rfl ?_) | (refine CallVC.pv hP (number_any 4 1 (by decide) (by decide) (by decide)) rfl ?_) | (refine CallQ.pv hP (number_any 4 1 (by decide) (by decide) (by decide)) rfl ?_) | (refine CallVC.pv hP (text_any 2 s (by decide) (by decide) (by omega)) rfl ?_) | (refine CallQ.pv hP (text_any 2 s (by decide) (by decide) (by omega)) rfl ?_)); simp only [GA, ↓GB, GX, simprocAttr, hnt, hT, h, e1])
        | (refine and_mk ?_ ?_; (focus first | decide | omega | rfl | assumption | (simp only [LBs]; omega) | (simp; done)))
        | (refine And.intro ?_ ?_))
      all_goals (try refine Done.mk ?_)
      all_goals first
        | ((try simp only [List.length_append]); omega)
        | (refine ⟨?_, hbel⟩; simp_all [resB])
    · exfalso
      simp [rightB, hb] at h
  | false =>
    by_cases hb : b = []
    · subst hb
      refine calls_pureK (args := [.agg #[.int .i64 t, .string (B s), .int .u64 q, .bool false, .string (B [])]]) w Tryd.func45 rfl Tryd.ntmps45 (by simp) ?_
      intro X K hX hK
      have hnt : X.nt = 36 := by rw [hX]
      have hwi : X.wi = w := by rw [hX]
      have hP : X.P = Tryd.prog := by rw [hX]
      have hown : X.own = [] := by rw [hX]
      have hbl : X.base.length = 0 := by rw [hX]; rfl
      clear hX
      have hT := Ty.T45 hP
      repeat' (first
        | (refine SX.seqK ?_; intro N hN)
        | ((first | (refine SX.ops ?_) | (refine SX.planT (id := 3) [.q [(0, [1]), (1, [8]), (2, [9]), (3, [10]), (4, [11]), (5, [1]), (6, [13]), (7, [14]), (8, [15]), (9, [12, 16]), (10, [1]), (11, [18]), (12, [19]), (13, [17, 20]), (14, [21])] none] ?_ ?_ ?_; (focus first | (rw [hP]; kernel_rfl) | (rw [hU1P, hP]; kernel_rfl)); (focus kernel_rfl))); simp only [GA, ↓GB, GX, simprocAttr, hnt, hT, h, e1])
        | ((first | refine SX.skip ?_ | refine SX.exit ?_ | refine SX.label ?_ | refine SX.ret ?_); try simp only [GA, ↓GB, GX, simprocAttr])
        | (refine hN _ ?_; clear hN N)
        | (refine hK _ _ (Fin.res rfl hown ?_); simp only [GA, ↓GB, GX, simprocAttr, f_a, f_b, f_n, f_c, f_B, f_v, f_g, f_0, f_1, f_2, hT, hwi, h, e1]; intro w' hbel; refine Done.out ?_)
        | ((first | refine SX.cond rfl (fun hb => ?_) (fun hb => ?_) | (refine bif2.mk (fun hb => ?_) (fun hb => ?_) <;> (try simp only [hb, GA, ↓GB, GX, simprocAttr, hnt, hT, h, e1]))) <;> ((first | cases hb | (simp only [HBs] at hb) | skip) <;> (first | (exfalso; omega) | skip)))
        | ((first | (refine CallVC.pv hP (hr) rfl ?_) | (refine CallQ.pv hP (hr) rfl ?_) | (refine CallVC.pv hP (number_any 1 t (by decide) (by decide) (by omega)) rfl ?_) | (refine CallQ.pv hP (number_any 1 t (by decide) (by decide) (by omega)) rfl ?_) | (refine CallVC.pv hP (number_any 3 q (by decide) (by decide) (by omega)) rfl ?_) | (refine CallQ.pv hP (number_any 3 q (by decide) (by decide) (by omega)) rfl ?_) | (refine CallVC.pv hP (text_any 2 s (by decide) (by decide) (by omega)) rfl ?_) | (refine CallQ.pv hP (text_any 2 s (by decide) (by decide) (by omega)) rfl ?_)); simp only [GA, ↓GB, GX, simprocAttr, hnt, hT, h, e1])
        | (refine and_mk ?_ ?_; (focus first | decide | omega | rfl | assumption | (simp only [LBs]; omega) | (simp; done)))
        | (refine And.intro ?_ ?_))
      all_goals (try refine Done.mk ?_)
      all_goals first
        | ((try simp only [List.length_append]); omega)
        | (refine ⟨?_, hbel⟩; simp_all [resB])
    · have gb : (b == []) = false := by cases b <;> simp_all
      refine calls_pureK (args := [.agg #[.int .i64 t, .string (B s), .int .u64 q, .bool false, .string (B b)]]) w Tryd.func45 rfl Tryd.ntmps45 (by simp) ?_
      intro X K hX hK
      have hnt : X.nt = 36 := by rw [hX]
      have hwi : X.wi = w := by rw [hX]
      have hP : X.P = Tryd.prog := by rw [hX]
      have hown : X.own = [] := by rw [hX]
      have hbl : X.base.length = 0 := by rw [hX]; rfl
      clear hX
      have hT := Ty.T45 hP
      repeat' (first
        | (refine SX.seqK ?_; intro N hN)
        | ((first | (refine SX.ops ?_) | (refine SX.planT (id := 3) [.q [(0, [1]), (1, [8]), (2, [9]), (3, [10]), (4, [11]), (5, [1]), (6, [13]), (7, [14]), (8, [15]), (9, [12, 16]), (10, [1]), (11, [18]), (12, [19]), (13, [17, 20]), (14, [21])] none] ?_ ?_ ?_; (focus first | (rw [hP]; kernel_rfl) | (rw [hU1P, hP]; kernel_rfl)); (focus kernel_rfl))); simp only [GA, ↓GB, GX, simprocAttr, hnt, hT, h, e1, gb])
        | ((first | refine SX.skip ?_ | refine SX.exit ?_ | refine SX.label ?_ | refine SX.ret ?_); try simp only [GA, ↓GB, GX, simprocAttr])
        | (refine hN _ ?_; clear hN N)
        | (refine hK _ _ (Fin.res rfl hown ?_); simp only [GA, ↓GB, GX, simprocAttr, f_a, f_b, f_n, f_c, f_B, f_v, f_g, f_0, f_1, f_2, hT, hwi, h, e1, gb]; intro w' hbel; refine Done.out ?_)
        | ((first | refine SX.cond rfl (fun hb => ?_) (fun hb => ?_) | (refine bif2.mk (fun hb => ?_) (fun hb => ?_) <;> (try simp only [hb, GA, ↓GB, GX, simprocAttr, hnt, hT, h, e1, gb]))) <;> ((first | cases hb | (simp only [HBs] at hb) | skip) <;> (first | (exfalso; omega) | skip)))
        | ((first | (refine CallVC.pv hP (hr) rfl ?_) | (refine CallQ.pv hP (hr) rfl ?_) | (refine CallVC.pv hP (number_any 1 t (by decide) (by decide) (by omega)) rfl ?_) | (refine CallQ.pv hP (number_any 1 t (by decide) (by decide) (by omega)) rfl ?_) | (refine CallVC.pv hP (number_any 3 q (by decide) (by decide) (by omega)) rfl ?_) | (refine CallQ.pv hP (number_any 3 q (by decide) (by decide) (by omega)) rfl ?_) | (refine CallVC.pv hP (text_any 2 s (by decide) (by decide) (by omega)) rfl ?_) | (refine CallQ.pv hP (text_any 2 s (by decide) (by decide) (by omega)) rfl ?_) | (refine CallVC.pv hP (text_any 5 b (by decide) (by decide) (by omega)) rfl ?_) | (refine CallQ.pv hP (text_any 5 b (by decide) (by decide) (by omega)) rfl ?_)); simp only [GA, ↓GB, GX, simprocAttr, hnt, hT, h, e1, gb])
        | (refine and_mk ?_ ?_; (focus first | decide | omega | rfl | assumption | (simp only [LBs]; omega) | (simp; done)))
        | (refine And.intro ?_ ?_))
      all_goals (try refine Done.mk ?_)
      all_goals first
        | ((try simp only [List.length_append]); omega)
        | (refine ⟨?_, hbel⟩; simp_all [resB])
end Go.Proofs.YtbdacbcpniegiaaDoor
namespace Go.Proofs.YtbdacbcpniegiaaDoor
open Go Go.RowKit Go.Proofs Go.Sx
theorem strEq_to {P P' : Program} {t : TypeId} {x y : Array Value} {r : Bool} (h : P' = P) (k : StrEq P t x y r) : StrEq P' t x y r := h ▸ k
def cmpMark (a : Int) (s : List UInt8) (q : Int) (b : Int) (t : List UInt8) (r : Int) : Int := if cmpKey a s b t ≠ 0 then cmpKey a s b t else cmpI q r
end Go.Proofs.YtbdacbcpniegiaaDoor
namespace Go.Proofs.YtbdacbcpniegiaaDoor
open Go Go.RowKit Go.Proofs Go.Sx
structure Mk where
  t : Int
  s : List UInt8
  q : Int
  st : Int
  d : List UInt8
deriving DecidableEq, Inhabited
def Mk.cells (m : Mk) : List Value := [.int .i64 m.t, .string (B m.s), .int .u64 m.q, .int .i64 m.st, .string (B m.d)]
def mks (ms : List Mk) : List Value := ms.flatMap Mk.cells
theorem mks_cons (m : Mk) (ms : List Mk) : mks (m :: ms) = m.cells ++ mks ms := rfl
theorem mks_append (a b : List Mk) : mks (a ++ b) = mks a ++ mks b := by simp [mks]
theorem mks_length : ∀ ms : List Mk, (mks ms).length = ms.length * 5
  | [] => rfl
  | m :: ms => by rw [mks_cons, List.length_append, mks_length ms]; simp [Mk.cells]; omega
theorem mks_drop : ∀ (i : Nat) (ms : List Mk), (mks ms).drop (i * 5) = mks (ms.drop i)
  | 0, ms => by simp
  | i + 1, [] => by simp [mks]
  | i + 1, m :: ms => by
    rw [mks_cons, show (i + 1) * 5 = m.cells.length + i * 5 by simp [Mk.cells]; omega, List.drop_append, Nat.add_sub_cancel_left, mks_drop i ms, List.drop_of_length_le (by omega)]
    rfl
theorem mks_take : ∀ (i : Nat) (ms : List Mk), (mks ms).take (i * 5) = mks (ms.take i)
  | 0, ms => by simp [mks]
  | i + 1, [] => by simp [mks]
  | i + 1, m :: ms => by
    rw [mks_cons, show (i + 1) * 5 = m.cells.length + i * 5 by simp [Mk.cells]; omega, List.take_append, List.take_succ_cons, mks_cons, Nat.add_sub_cancel_left, mks_take i ms, List.take_of_length_le (by omega)]
theorem mks_at (ms : List Mk) (i : Nat) (h : i < ms.length) : ((mks ms).drop (i * 5)).take 5 = (ms.getD i default).cells := by
  rw [mks_drop, List.drop_eq_getElem_cons h, mks_cons, List.getD_eq_getElem?_getD, List.getElem?_eq_getElem h]
  simp [Mk.cells]
@[reducible] def mrow (ms : List Mk) : LO := .row 62 5 ms.length (mks ms)
def idxI (p : Mk → Bool) (ms : List Mk) : Int := match ms.findIdx? p with | some i => i | none => -1
theorem idxN (p : Mk → Bool) (ms : List Mk) (i : Nat) (hi : i < ms.length) (hp : p (ms.getD i default) = true) (hn : ∀ j, j < i → p (ms.getD j default) = false) : idxI p ms = i := by
  have : ms.findIdx? p = some i := by
    rw [List.findIdx?_eq_some_iff_getElem]
    refine ⟨hi, by simpa [List.getD_eq_getElem?_getD, List.getElem?_eq_getElem hi] using hp, fun j hj => ?_⟩
    have := hn j hj
    rw [List.getD_eq_getElem?_getD, List.getElem?_eq_getElem (by omega)] at this
    simpa using this
  simp [idxI, this]
theorem idxNone (p : Mk → Bool) (ms : List Mk) (hn : ∀ j, j < ms.length → p (ms.getD j default) = false) : idxI p ms = -1 := by
  have : ms.findIdx? p = none := by
    rw [List.findIdx?_eq_none_iff]
    intro x hx
    obtain ⟨j, hj, rfl⟩ := List.mem_iff_getElem.1 hx
    have := hn j hj
    rw [List.getD_eq_getElem?_getD, List.getElem?_eq_getElem hj] at this
    simpa using this
  simp [idxI, this]
end Go.Proofs.YtbdacbcpniegiaaDoor
namespace Go.Proofs.YtbdacbcpniegiaaDoor
open Go Go.RowKit Go.Proofs Go.Sx
def cmpM (a b : Mk) : Int := cmpMark a.t a.s a.q b.t b.s b.q
end Go.Proofs.YtbdacbcpniegiaaDoor
namespace Go.Proofs.YtbdacbcpniegiaaDoor
open Go Go.RowKit Go.Proofs Go.Sx
theorem mks_one (ms : List Mk) : ∀ u ∈ mks ms, u.oneCell' = true := by
  intro u hu
  simp only [mks, List.mem_flatMap] at hu
  obtain ⟨m, _, hu⟩ := hu
  simp only [Mk.cells, List.mem_cons, List.not_mem_nil, or_false] at hu
  rcases hu with rfl | rfl | rfl | rfl | rfl <;> rfl
theorem clone_ctr (ms : List Mk) (hms : ms.length ≤ 1000000) : Ctr Tryd.prog [] 90 [mrow ms] [.one (.c (.row 0))]
    (fun os v => os = [mrow ms, mrow ms] ∧ v = .one (.c (.row 1))) := by
  refine Ctr.nilRow 62 5 (Ctr.less ?_)
  intro X0 hP0 hG0 N0 hN0
  refine CallVC.inline (f := 90) (by rw [hP0]; exact Tryd.func90) rfl Tryd.ntmps90 rfl (by simp) ?_
  intro X K hU hnt hbl hK
  have hP : X.P = Tryd.prog := hU.P.trans hP0
  have hG := hG0.under hU
  have hT := Ty.T90 hP
  simp only [GA, ↓GB, GX, simprocAttr] at hbl ⊢
  repeat' (first
    | (refine SX.seqK ?_; intro N hN)
    | ((first | (refine SX.ops ?_)); simp only [GA, ↓GB, GX, simprocAttr, hnt, hT])
    | ((first | refine SX.skip ?_ | refine SX.exit ?_ | refine SX.label ?_ | refine SX.ret ?_); try simp only [GA, ↓GB, GX, simprocAttr])
    | (refine hN _ ?_; clear hN N)
    | ((first | refine hK _ _ (FinI.ret3 ?_) | refine hK _ _ (FinI.nrm3 ?_)); simp only [GA, ↓GB, GX, simprocAttr, finP_s, hnt, hT]; refine Done.out ?_)
    | ((first | refine SX.cond rfl (fun hb => ?_) (fun hb => ?_) | (refine bif2.mk (fun hb => ?_) (fun hb => ?_) <;> (try simp only [hb, GA, ↓GB, GX, simprocAttr, hnt, hT]))) <;> ((first | cases hb | (simp only [HBs] at hb) | skip) <;> (first | (exfalso; omega) | skip)))
    | (refine VO.rowNil (e' := 62) rfl rfl rfl (by rw [hP]; kernel_rfl) (fun b hb0 => ?_) <;> simp only [GA, ↓GB, GX, simprocAttr, hnt, hT])
    | (refine VO.closeRow (t := 5) (j := 1) (us := []) (sz := 5) (e := 62) (n := 0) (cap := 0) rfl rfl rfl (Nat.le_refl _) (Nat.zero_le _) ?_ <;> refine VO.appendRow (i := 2) (j := 0) (e := 62) (e' := 62) (sz := 5) rfl rfl (by rw [hP]; exact Ty.ei59) rfl rfl (mks_one ms) (by simp only [maxLen]; omega) (by omega) ?_ <;> simp only [GA, ↓GB, GX, simprocAttr, hnt, hT, Nat.zero_add])
    | (refine and_mk ?_ ?_; (focus first | decide | omega | rfl | assumption | (simp only [LBs]; omega) | (simp; done)))
    | (refine And.intro ?_ ?_))
  all_goals (try refine Done.mk ?_)
  · have h0 := hb0 rfl
    obtain rfl : ms = [] := List.length_eq_zero_iff.1 h0
    refine hN0 _ _ ⟨[0], [mrow []], vv (.slice none 0 0), ?_, rfl, rfl, .inr ⟨rfl, rfl, rfl⟩⟩
    exact LeR.of rfl trivial ⟨.inr rfl, trivial⟩ (by decide) rfl rfl rfl
  · refine hN0 _ _ ⟨[0, 3], [mrow ms, mrow ms], .one (.c (.row 1)), ?_, rfl, rfl, .inl ⟨rfl, rfl⟩⟩
    exact LeR.of rfl trivial ⟨.inr rfl, .inr rfl, trivial⟩ (by decide) rfl rfl rfl
end Go.Proofs.YtbdacbcpniegiaaDoor
namespace Go.Proofs.YtbdacbcpniegiaaDoor
open Go Go.RowKit Go.Proofs Go.Sx
theorem idxI_spec (p : Mk → Bool) (ms : List Mk) : (idxI p ms = -1 ∧ ∀ j, j < ms.length → p (ms.getD j default) = false) ∨ ∃ k, k < ms.length ∧ idxI p ms = (k : Int) ∧ p (ms.getD k default) = true ∧ ∀ j, j < k → p (ms.getD j default) = false := by
  unfold idxI
  cases h : ms.findIdx? p with
  | none =>
    refine .inl ⟨rfl, fun j hj => ?_⟩
    rw [List.findIdx?_eq_none_iff] at h
    rw [List.getD_eq_getElem?_getD, List.getElem?_eq_getElem hj]
    exact h _ (List.getElem_mem hj)
  | some k =>
    rw [List.findIdx?_eq_some_iff_getElem] at h
    obtain ⟨hk, hp, hn⟩ := h
    refine .inr ⟨k, hk, rfl, by simpa [List.getD_eq_getElem?_getD, List.getElem?_eq_getElem hk] using hp, fun j hj => ?_⟩
    have := hn j hj
    simpa [List.getD_eq_getElem?_getD, List.getElem?_eq_getElem (show j < ms.length by omega)] using this
theorem filter_none (p : Mk → Bool) (ms : List Mk) (h : ∀ j, j < ms.length → p (ms.getD j default) = false) : (ms.filter fun m => !p m) = ms := by
  rw [List.filter_eq_self]
  intro x hx
  obtain ⟨j, hj, rfl⟩ := List.mem_iff_getElem.1 hx
  have := h j hj
  rw [List.getD_eq_getElem?_getD, List.getElem?_eq_getElem hj] at this
  simpa using this
theorem take_filter (p : Mk → Bool) (ms : List Mk) (k : Nat) (hk : k < ms.length) (hp : p (ms.getD k default) = true) (hn : ∀ j, j < k → p (ms.getD j default) = false) : ms.take k = ((ms.take (k + 1)).filter fun m => !p m) := by
  rw [List.take_succ_eq_append_getElem hk, List.filter_append]
  rw [List.getD_eq_getElem?_getD, List.getElem?_eq_getElem hk] at hp
  have h1 : ([ms[k]].filter fun m => !p m) = [] := by simp at hp; simp [hp]
  rw [h1, List.append_nil]
  refine (filter_none p _ fun j hj => ?_).symm
  have := hn j (by simp at hj; omega)
  simp only [List.getD_eq_getElem?_getD] at this ⊢
  rw [List.getElem?_take_of_lt (by simp at hj; omega)]
  exact this
theorem getD_drop (l ms : List Mk) (j : Nat) (h : l.drop j = ms.drop j) (hj : j < ms.length) : l.getD j default = ms.getD j default := by
  have := congrArg (fun x : List Mk => x[0]?) h
  simp only [List.getElem?_drop, Nat.add_zero] at this
  rw [List.getD_eq_getElem?_getD, List.getD_eq_getElem?_getD, this]
theorem mks_set : ∀ (l : List Mk) (i : Nat) (m : Mk), i < l.length → (mks l).take (i * 5) ++ m.cells ++ (mks l).drop (i * 5 + 5) = mks (l.set i m)
  | [], i, m, h => by simp at h
  | x :: l, 0, m, h => by
    simp only [Nat.zero_mul, List.take_zero, List.nil_append, List.set_cons_zero, mks_cons, Nat.zero_add]
    rw [List.drop_append, List.drop_of_length_le (by simp [Mk.cells])]
    simp [Mk.cells]
  | x :: l, i + 1, m, h => by
    have := mks_set l i m (by simpa using h)
    rw [List.set_cons_succ, mks_cons, mks_cons, ← this, show (i + 1) * 5 = x.cells.length + i * 5 by simp [Mk.cells]; omega, List.take_append, List.take_of_length_le (by omega), Nat.add_assoc, List.drop_append, List.drop_of_length_le (by omega)]
    simp
theorem lp_keep (p : Mk → Bool) (ms l : List Mk) (i j : Nat) (hl : l.length = ms.length) (hij : i < j) (hj : j < ms.length) (hft : l.take i = ((ms.take j).filter fun m => !p m)) (hp : p (ms.getD j default) = false) :
    (l.set i (ms.getD j default)).take (i + 1) = ((ms.take (j + 1)).filter fun m => !p m) := by
  have e : ms.getD j default = ms[j] := by rw [List.getD_eq_getElem?_getD, List.getElem?_eq_getElem hj]; rfl
  generalize ms.getD j default = v at *
  rw [List.take_succ_eq_append_getElem (by simp; omega), List.take_succ_eq_append_getElem hj, List.filter_append, ← hft, List.take_set_of_le (Nat.le_refl _), ← e]
  simp [hp]
theorem lp_skip (p : Mk → Bool) (ms l : List Mk) (i j : Nat) (hj : j < ms.length) (hft : l.take i = ((ms.take j).filter fun m => !p m)) (hp : p (ms.getD j default) = true) :
    l.take i = ((ms.take (j + 1)).filter fun m => !p m) := by
  have e : ms.getD j default = ms[j] := by rw [List.getD_eq_getElem?_getD, List.getElem?_eq_getElem hj]; rfl
  rw [List.take_succ_eq_append_getElem hj, List.filter_append, ← hft]
  rw [e] at hp
  simp [hp]
theorem lp_drop (ms l : List Mk) (i j : Nat) (v : Mk) (hij : i < j) (hdr : l.drop j = ms.drop j) : (l.set i v).drop (j + 1) = ms.drop (j + 1) := by
  rw [List.drop_set_of_lt (by omega), ← List.drop_drop (i := 1) (j := j), ← List.drop_drop (i := 1) (j := j), hdr]
theorem lp_drop' (ms l : List Mk) (j : Nat) (hdr : l.drop j = ms.drop j) : l.drop (j + 1) = ms.drop (j + 1) := by
  rw [← List.drop_drop (i := 1) (j := j), ← List.drop_drop (i := 1) (j := j), hdr]
theorem lp_end (p : Mk → Bool) (ms l : List Mk) (i j : Nat) (ys vs ds : List Value) (hl : l.length = ms.length) (hij : i < j) (hj : j = ms.length) (hft : l.take i = ((ms.take j).filter fun m => !p m)) :
    LO.row 62 5 i (List.take (i * 5) (List.take (0 + i * 5) (mks l ++ ys) ++ vs ++ ds)) = mrow (ms.filter fun m => !p m) := by
  subst hj
  rw [List.take_length] at hft
  have hi : (ms.filter fun m => !p m).length = i := by rw [← hft]; simp; omega
  have hle : i * 5 ≤ (mks l).length := by rw [mks_length]; omega
  simp only [Nat.zero_add, mrow, hi]
  congr 1
  rw [List.append_assoc, List.take_append_of_le_length (by simp; omega), List.take_take, Nat.min_self, List.take_append_of_le_length hle, mks_take, hft]
end Go.Proofs.YtbdacbcpniegiaaDoor
namespace Go.Proofs.YtbdacbcpniegiaaDoor
open Go Go.RowKit Go.Proofs Go.Sx
theorem insert_end (ms : List Mk) (hms : ms.length ≤ 1000000) (m : Mk) : Ctr Tryd.prog [] 83 [mrow ms, .cells [.v (.int .i64 m.t), .v (.string (B m.s)), .v (.int .u64 m.q), .v (.int .i64 m.st), .v (.string (B m.d))] 62] [.one (.c (.row 0)), vv (.int .i64 ms.length), .one (.c (.sl 1 0 1 1))]
    (fun os v => os = [.gone, .cells [.v (.int .i64 m.t), .v (.string (B m.s)), .v (.int .u64 m.q), .v (.int .i64 m.st), .v (.string (B m.d))] 62, mrow (ms ++ [m])] ∧ v = .one (.c (.row 2))) := by
  refine Ctr.less ?_
  intro X0 hP0 hG0 N0 hN0
  refine CallVC.inline (f := 83) (by rw [hP0]; exact Tryd.func83) rfl Tryd.ntmps83 rfl (by simp) ?_
  intro X K hU hnt hbl hK
  have hP : X.P = Tryd.prog := hU.P.trans hP0
  have hG := hG0.under hU
  have hT := Ty.T83 hP
  simp only [GA, ↓GB, GX, simprocAttr] at hbl ⊢
  repeat' (first
    | (exact absurd hb (by simp))
    | (refine SX.seqK ?_; intro N hN)
    | ((first | (refine SX.ops ?_) | (refine SX.planT (id := 11) [.q [(0, [9]), (1, [1]), (2, [7]), (3, [47, 48]), (4, [46, 49]), (5, [0]), (6, [1]), (7, [51, 52])] none, .s 8] ?_ ?_ ?_; (focus first | (rw [hP]; kernel_rfl) | (rw [hU1P, hP]; kernel_rfl)); (focus kernel_rfl)) | (refine SX.planT (id := 15) [.q [(0, [0]), (1, [1]), (2, [7]), (3, [70, 71]), (4, [69, 72]), (5, [0]), (6, [1]), (7, [74, 75])] none, .s 8] ?_ ?_ ?_; (focus first | (rw [hP]; kernel_rfl) | (rw [hU1P, hP]; kernel_rfl)); (focus kernel_rfl))); simp only [GA, ↓GB, GX, simprocAttr, hnt, hT])
    | ((first | refine SX.skip ?_ | refine SX.exit ?_ | refine SX.label ?_ | refine SX.ret ?_); try simp only [GA, ↓GB, GX, simprocAttr])
    | (refine hN _ ?_; clear hN N)
    | ((first | refine hK _ _ (FinI.ret3 ?_) | refine hK _ _ (FinI.nrm3 ?_)); simp only [GA, ↓GB, GX, simprocAttr, finP_s, hnt, hT]; refine Done.out ?_)
    | ((first | refine SX.cond rfl (fun hb => ?_) (fun hb => ?_) | (refine bif2.mk (fun hb => ?_) (fun hb => ?_) <;> (try simp only [hb, GA, ↓GB, GX, simprocAttr, hnt, hT]))) <;> ((first | cases hb | (simp only [HBs] at hb) | skip) <;> (first | (exfalso; omega) | skip)))
    | (refine and_mk ?_ ?_; (focus first | decide | omega | rfl | assumption | (simp only [LBs]; omega) | (simp; done)))
    | (refine And.intro ?_ ?_))
  all_goals (try refine Done.mk ?_)
  have e : LO.row 62 5 (ms.length + 1) (mks ms ++ [Value.int IntKind.i64 m.t, Value.string (B m.s), Value.int IntKind.u64 m.q, Value.int IntKind.i64 m.st, Value.string (B m.d)]) = mrow (ms ++ [m]) := by simp [mrow, mks_append, mks, Mk.cells]
  rw [e]
  (refine hN0 _ _ ⟨[0, 1, 2], _, _, ?_, ?_, ?_, ⟨rfl, rfl⟩⟩; (focus exact LeR.of rfl trivial (by simp only [GA, ↓GB, GX, simprocAttr, GDs]) (by decide) rfl rfl rfl); rotate_left; (focus rfl))
  rfl
end Go.Proofs.YtbdacbcpniegiaaDoor
namespace Go.Proofs.YtbdacbcpniegiaaDoor.Q
open Go Go.RowKit Go.Proofs Go.Sx
def isK (b : Int) (t : List UInt8) (m : Rs) : Bool := m.t == b && m.s == t
def isO (x m : Rs) : Bool := decide (0 < cmpKey m.t m.s x.t x.s)
theorem of1_ctr (m : Rs) (b : Int) (t : List UInt8) : Ctr Tryd.prog [] 147 [.cells [.v (.int .i64 b), .v (.string (B t))] 26] [.one (.agg [.v (.int .i64 m.t), .v (.string (B m.s)), .v (.int .u64 m.q), .v (.bool m.g), .v (.string (B m.b))]), .one (.c (.loc 0 0))]
    (fun os v => os = [.cells [.v (.int .i64 b), .v (.string (B t))] 26] ∧ v = vv (.bool (isK b t m))) := by
  refine Ctr.less ?_
  intro X0 hP0 hG0 N0 hN0
  refine CallVC.inline (f := 147) (by rw [hP0]; exact Tryd.func147) rfl Tryd.ntmps147 rfl (by simp) ?_
  intro X K hU hnt hbl hK
  have hP : X.P = Tryd.prog := hU.P.trans hP0
  have hG := hG0.under hU
  have hT := Ty.T147 hP
  simp only [GA, ↓GB, GX, simprocAttr] at hbl ⊢
  repeat' (first
    | (refine SX.seqK ?_; intro N hN)
    | ((first | (refine SX.ops ?_)); simp only [GA, ↓GB, GX, simprocAttr, hnt, hT])
    | ((first | refine SX.skip ?_ | refine SX.exit ?_ | refine SX.label ?_ | refine SX.ret ?_); try simp only [GA, ↓GB, GX, simprocAttr])
    | (refine hN _ ?_; clear hN N)
    | ((first | refine hK _ _ (FinI.ret3 ?_) | refine hK _ _ (FinI.nrm3 ?_)); simp only [GA, ↓GB, GX, simprocAttr, finP_s, hnt, hT]; refine Done.out ?_)
    | (refine bif2.mk (fun hb => ?_) (fun hb => ?_) <;> (try simp only [hb, GA, ↓GB, GX, simprocAttr, hnt, hT]) <;> ((first | cases hb | (simp only [HBs] at hb) | skip) <;> (first | (exfalso; omega) | skip)))
    | (refine ⟨_, strEq_to hP (Ty.eqS26 _ _ _ _), ?_⟩)
    | (refine and_mk ?_ ?_; (focus first | decide | omega | rfl | assumption | (simp only [LBs]; omega) | (simp; done)))
    | (refine And.intro ?_ ?_))
  all_goals (try refine Done.mk ?_)
  all_goals ((refine hN0 _ _ ⟨[0], _, _, ?_, ?_, ?_, ⟨rfl, rfl⟩⟩; (focus exact LeR.of rfl trivial (by simp only [GA, ↓GB, GX, simprocAttr, GDs]) (by decide) rfl rfl rfl); rotate_left; (focus rfl)); rfl)
theorem set1_ctr (m x : Rs) : Ctr Tryd.prog [] 113 [.cells [.v (.int .i64 x.t), .v (.string (B x.s)), .v (.int .u64 x.q), .v (.bool x.g), .v (.string (B x.b))] 89] [.one (.agg [.v (.int .i64 m.t), .v (.string (B m.s)), .v (.int .u64 m.q), .v (.bool m.g), .v (.string (B m.b))]), .one (.c (.loc 0 0))]
    (fun os v => os = [.cells [.v (.int .i64 x.t), .v (.string (B x.s)), .v (.int .u64 x.q), .v (.bool x.g), .v (.string (B x.b))] 89] ∧ v = vv (.bool (isO x m))) := by
  refine Ctr.less ?_
  intro X0 hP0 hG0 N0 hN0
  refine CallVC.inline (f := 113) (by rw [hP0]; exact Tryd.func113) rfl Tryd.ntmps113 rfl (by simp) ?_
  intro X K hU hnt hbl hK
  have hP : X.P = Tryd.prog := hU.P.trans hP0
  have hG := hG0.under hU
  have hT := Ty.T113 hP
  simp only [GA, ↓GB, GX, simprocAttr] at hbl ⊢
  repeat' (first
    | (refine SX.seqK ?_; intro N hN)
    | ((first | (refine SX.ops ?_)); simp only [GA, ↓GB, GX, simprocAttr, hnt, hT])
    | ((first | refine SX.skip ?_ | refine SX.exit ?_ | refine SX.label ?_ | refine SX.ret ?_); try simp only [GA, ↓GB, GX, simprocAttr])
    | (refine hN _ ?_; clear hN N)
    | ((first | refine hK _ _ (FinI.ret3 ?_) | refine hK _ _ (FinI.nrm3 ?_)); simp only [GA, ↓GB, GX, simprocAttr, finP_s, hnt, hT]; refine Done.out ?_)
    | (refine bif2.mk (fun hb => ?_) (fun hb => ?_) <;> (try simp only [hb, GA, ↓GB, GX, simprocAttr, hnt, hT]) <;> ((first | cases hb | (simp only [HBs] at hb) | skip) <;> (first | (exfalso; omega) | skip)))
    | ((first | (refine CallVC.pv hP (order_any m.t x.t m.s x.s) rfl ?_) | (refine CallQ.pv hP (order_any m.t x.t m.s x.s) rfl ?_)); simp only [GA, ↓GB, GX, simprocAttr, hnt, hT])
    | (refine and_mk ?_ ?_; (focus first | decide | omega | rfl | assumption | (simp only [LBs]; omega) | (simp; done)))
    | (refine And.intro ?_ ?_))
  all_goals (try refine Done.mk ?_)
  all_goals ((refine hN0 _ _ ⟨[0], _, _, ?_, ?_, ?_, ⟨rfl, rfl⟩⟩; (focus exact LeR.of rfl trivial (by simp only [GA, ↓GB, GX, simprocAttr, GDs]) (by decide) rfl rfl rfl); rotate_left; (focus rfl)); rfl)
end Go.Proofs.YtbdacbcpniegiaaDoor.Q
namespace Go.Proofs.YtbdacbcpniegiaaDoor.Q
open Go Go.RowKit Go.Proofs Go.Sx
def mks (ms : List Rs) : List Value := ms.flatMap Rs.cells
theorem mks_cons (m : Rs) (ms : List Rs) : mks (m :: ms) = m.cells ++ mks ms := rfl
theorem mks_append (a b : List Rs) : mks (a ++ b) = mks a ++ mks b := by simp [mks]
theorem mks_length : ∀ ms : List Rs, (mks ms).length = ms.length * 5
  | [] => rfl
  | m :: ms => by rw [mks_cons, List.length_append, mks_length ms]; simp [Rs.cells]; omega
theorem mks_drop : ∀ (i : Nat) (ms : List Rs), (mks ms).drop (i * 5) = mks (ms.drop i)
  | 0, ms => by simp
  | i + 1, [] => by simp [mks]
  | i + 1, m :: ms => by
    rw [mks_cons, show (i + 1) * 5 = m.cells.length + i * 5 by simp [Rs.cells]; omega, List.drop_append, Nat.add_sub_cancel_left, mks_drop i ms, List.drop_of_length_le (by omega)]
    rfl
theorem mks_take : ∀ (i : Nat) (ms : List Rs), (mks ms).take (i * 5) = mks (ms.take i)
  | 0, ms => by simp [mks]
  | i + 1, [] => by simp [mks]
  | i + 1, m :: ms => by
    rw [mks_cons, show (i + 1) * 5 = m.cells.length + i * 5 by simp [Rs.cells]; omega, List.take_append, List.take_succ_cons, mks_cons, Nat.add_sub_cancel_left, mks_take i ms, List.take_of_length_le (by omega)]
theorem mks_at (ms : List Rs) (i : Nat) (h : i < ms.length) : ((mks ms).drop (i * 5)).take 5 = (ms.getD i default).cells := by
  rw [mks_drop, List.drop_eq_getElem_cons h, mks_cons, List.getD_eq_getElem?_getD, List.getElem?_eq_getElem h]
  simp [Rs.cells]
@[reducible] def mrow (ms : List Rs) : LO := .row 89 5 ms.length (mks ms)
def idxI (p : Rs → Bool) (ms : List Rs) : Int := match ms.findIdx? p with | some i => i | none => -1
theorem idxN (p : Rs → Bool) (ms : List Rs) (i : Nat) (hi : i < ms.length) (hp : p (ms.getD i default) = true) (hn : ∀ j, j < i → p (ms.getD j default) = false) : idxI p ms = i := by
  have : ms.findIdx? p = some i := by
    rw [List.findIdx?_eq_some_iff_getElem]
    refine ⟨hi, by simpa [List.getD_eq_getElem?_getD, List.getElem?_eq_getElem hi] using hp, fun j hj => ?_⟩
    have := hn j hj
    rw [List.getD_eq_getElem?_getD, List.getElem?_eq_getElem (by omega)] at this
    simpa using this
  simp [idxI, this]
theorem idxNone (p : Rs → Bool) (ms : List Rs) (hn : ∀ j, j < ms.length → p (ms.getD j default) = false) : idxI p ms = -1 := by
  have : ms.findIdx? p = none := by
    rw [List.findIdx?_eq_none_iff]
    intro x hx
    obtain ⟨j, hj, rfl⟩ := List.mem_iff_getElem.1 hx
    have := hn j hj
    rw [List.getD_eq_getElem?_getD, List.getElem?_eq_getElem hj] at this
    simpa using this
  simp [idxI, this]
theorem indexFuncK (ms : List Rs) (hms : ms.length ≤ 1000000) (b : Int) (t : List UInt8) : Ctr Tryd.prog [] 112 [mrow ms, .cells [.v (.int .i64 b), .v (.string (B t))] 26] [.one (.c (.row 0)), .one (.c (.clo 147 [] [.loc 1 0]))]
    (fun os v => os = [mrow ms, .cells [.v (.int .i64 b), .v (.string (B t))] 26] ∧ v = vv (.int .i64 (idxI (isK b t) ms))) := by
  have hrun : ∀ m : Rs, Ctr Tryd.prog [] 147 [.cells [.v (.int .i64 b), .v (.string (B t))] 26] [.one (.agg [.v (.int .i64 m.t), .v (.string (B m.s)), .v (.int .u64 m.q), .v (.bool m.g), .v (.string (B m.b))]), .one (.c (.loc 0 0))]
    (fun os v => os = [.cells [.v (.int .i64 b), .v (.string (B t))] 26] ∧ v = vv (.bool ((isK b t) m))) := fun m => of1_ctr m b t
  intro X0 hP0 hG0 N0 hN0
  refine CallVC.inline (f := 112) (by rw [hP0]; exact Tryd.func112) rfl Tryd.ntmps112 rfl (by simp) ?_
  intro X K hU hnt hbl hK
  have hP : X.P = Tryd.prog := hU.P.trans hP0
  have hG := hG0.under hU
  have hT := Ty.T112 hP
  simp only [GA, ↓GB, GX, simprocAttr] at hbl ⊢
  have hc : calleeOk X.P 147 = true := by rw [hP]; kernel_rfl
  repeat' (first
    | (refine SX.seqK ?_; intro N hN)
    | ((first | (refine SX.ops ?_)); simp only [GA, ↓GB, GX, simprocAttr, hnt, hT, hc])
    | ((first | refine SX.skip ?_ | refine SX.exit ?_ | refine SX.label ?_ | refine SX.ret ?_); try simp only [GA, ↓GB, GX, simprocAttr])
    | (refine hN _ ?_; clear hN N)
    | ((first | refine hK _ _ (FinI.ret3 ?_) | refine hK _ _ (FinI.nrm3 ?_)); simp only [GA, ↓GB, GX, simprocAttr, finP_s, hnt, hT, hc]; refine Done.out ?_)
    | (clear hN N; first | (refine hN _ ?_; clear hN N) | (clear hN N; refine hN _ ?_; clear hN N))
    | ((first | refine SX.cond rfl (fun hb => ?_) (fun hb => ?_) | (refine bif2.mk (fun hb => ?_) (fun hb => ?_) <;> (try simp only [hb, GA, ↓GB, GX, simprocAttr, hnt, hT, hc]))) <;> ((first | cases hb | (simp only [HBs] at hb) | skip) <;> (first | (exfalso; omega) | skip)))
    | ((first | (refine Ctr.use (hrun (ms.getD i default)) hP ?_ [1] ?_ rfl rfl ?_; (focus (intro p hp; cases hp)); (focus (refine LeR.of rfl trivial ?_ ?_ ?_ ?_ ?_ <;> first | decide | (simp only [GA, ↓GB, GX, simprocAttr, GDs]; done))); intro os' s hR; obtain ⟨rfl, rfl⟩ := hR)); simp only [GA, ↓GB, GX, simprocAttr, hnt, hT, hc])
    | (refine SX.loop (ι := { i : Nat // i ≤ ms.length ∧ ∀ j, j < i → (isK b t) (ms.getD j default) = false }) (fun i => ⟨[(0, .one (.c (.row 0))), (1, .one (.c (.clo 147 [] [.loc 1 0]))), (7, vv (.int .i64 ms.length)), (8, vv (.int .i64 i.1))], [mrow ms, .cells [.v (.int .i64 b), .v (.string (B t))] 26]⟩) (fun i => ms.length - i.1) ⟨0, by omega, fun j hj => absurd hj (Nat.not_lt_zero j)⟩ ⟨[0, 1], (LeR.of (by rw [hbl]; decide) (by simp only [GA, ↓GB, GX, simprocAttr, GDs]) (by simp only [GA, ↓GB, GX, simprocAttr, GDs]) (by decide) (by simp only [GA, ↓GB, GX, simprocAttr, GDs]) (by simp only [GA, ↓GB, GX, simprocAttr, GDs]) (by simp only [GA, ↓GB, GX, simprocAttr, GDs]))⟩ ?_ <;> rintro ⟨i, hi, hno⟩ <;> simp only [] at hi hno ⊢)
    | (refine ⟨(ms.getD i default).cells, rfl, mks_at _ _ (by omega), ?_⟩ <;> simp only [Rs.cells, GA, ↓GB, GX, simprocAttr, hnt, hT])
    | (refine SX.block ?_)
    | (refine and_mk ?_ ?_; (focus first | decide | omega | rfl | assumption | (simp only [LBs]; omega) | (simp; done)))
    | (refine And.intro ?_ ?_))
  all_goals (try refine Done.mk ?_)
  · exact hN0 _ _ ⟨rfl, by rw [idxN _ _ i (by omega) hb hno]; rfl⟩
  · refine ⟨⟨i + 1, by omega, fun j hj => ?_⟩, [0, 1], (LeR.of (by rw [hbl]; decide) (by simp only [GA, ↓GB, GX, simprocAttr, GDs]; try (rw [wI64 (by omega) (by omega)]; simp)) (by simp only [GA, ↓GB, GX, simprocAttr, GDs]; try (rw [wI64 (by omega) (by omega)]; simp)) (by decide) (by simp only [GA, ↓GB, GX, simprocAttr, GDs]) (by simp only [GA, ↓GB, GX, simprocAttr, GDs]) (by simp only [GA, ↓GB, GX, simprocAttr, GDs])), by show ms.length - (i + 1) < ms.length - i; omega⟩
    rcases Nat.lt_or_eq_of_le (Nat.le_of_lt_succ hj) with h | h
    · exact hno j h
    · rw [h]; exact hb
  · exact hN0 _ _ ⟨rfl, by rw [idxNone _ _ (fun j hj => hno j (by omega))]; rfl⟩
theorem indexFuncO (ms : List Rs) (hms : ms.length ≤ 1000000) (x : Rs) : Ctr Tryd.prog [] 112 [mrow ms, .cells [.v (.int .i64 x.t), .v (.string (B x.s)), .v (.int .u64 x.q), .v (.bool x.g), .v (.string (B x.b))] 89] [.one (.c (.row 0)), .one (.c (.clo 113 [] [.loc 1 0]))]
    (fun os v => os = [mrow ms, .cells [.v (.int .i64 x.t), .v (.string (B x.s)), .v (.int .u64 x.q), .v (.bool x.g), .v (.string (B x.b))] 89] ∧ v = vv (.int .i64 (idxI (isO x) ms))) := by
  have hrun : ∀ m : Rs, Ctr Tryd.prog [] 113 [.cells [.v (.int .i64 x.t), .v (.string (B x.s)), .v (.int .u64 x.q), .v (.bool x.g), .v (.string (B x.b))] 89] [.one (.agg [.v (.int .i64 m.t), .v (.string (B m.s)), .v (.int .u64 m.q), .v (.bool m.g), .v (.string (B m.b))]), .one (.c (.loc 0 0))]
    (fun os v => os = [.cells [.v (.int .i64 x.t), .v (.string (B x.s)), .v (.int .u64 x.q), .v (.bool x.g), .v (.string (B x.b))] 89] ∧ v = vv (.bool ((isO x) m))) := fun m => set1_ctr m x
  intro X0 hP0 hG0 N0 hN0
  refine CallVC.inline (f := 112) (by rw [hP0]; exact Tryd.func112) rfl Tryd.ntmps112 rfl (by simp) ?_
  intro X K hU hnt hbl hK
  have hP : X.P = Tryd.prog := hU.P.trans hP0
  have hG := hG0.under hU
  have hT := Ty.T112 hP
  simp only [GA, ↓GB, GX, simprocAttr] at hbl ⊢
  have hc : calleeOk X.P 113 = true := by rw [hP]; kernel_rfl
  repeat' (first
    | (refine SX.seqK ?_; intro N hN)
    | ((first | (refine SX.ops ?_)); simp only [GA, ↓GB, GX, simprocAttr, hnt, hT, hc])
    | ((first | refine SX.skip ?_ | refine SX.exit ?_ | refine SX.label ?_ | refine SX.ret ?_); try simp only [GA, ↓GB, GX, simprocAttr])
    | (refine hN _ ?_; clear hN N)
    | ((first | refine hK _ _ (FinI.ret3 ?_) | refine hK _ _ (FinI.nrm3 ?_)); simp only [GA, ↓GB, GX, simprocAttr, finP_s, hnt, hT, hc]; refine Done.out ?_)
    | (clear hN N; first | (refine hN _ ?_; clear hN N) | (clear hN N; refine hN _ ?_; clear hN N))
    | ((first | refine SX.cond rfl (fun hb => ?_) (fun hb => ?_) | (refine bif2.mk (fun hb => ?_) (fun hb => ?_) <;> (try simp only [hb, GA, ↓GB, GX, simprocAttr, hnt, hT, hc]))) <;> ((first | cases hb | (simp only [HBs] at hb) | skip) <;> (first | (exfalso; omega) | skip)))
    | ((first | (refine Ctr.use (hrun (ms.getD i default)) hP ?_ [1] ?_ rfl rfl ?_; (focus (intro p hp; cases hp)); (focus (refine LeR.of rfl trivial ?_ ?_ ?_ ?_ ?_ <;> first | decide | (simp only [GA, ↓GB, GX, simprocAttr, GDs]; done))); intro os' s hR; obtain ⟨rfl, rfl⟩ := hR)); simp only [GA, ↓GB, GX, simprocAttr, hnt, hT, hc])
    | (refine SX.loop (ι := { i : Nat // i ≤ ms.length ∧ ∀ j, j < i → (isO x) (ms.getD j default) = false }) (fun i => ⟨[(0, .one (.c (.row 0))), (1, .one (.c (.clo 113 [] [.loc 1 0]))), (7, vv (.int .i64 ms.length)), (8, vv (.int .i64 i.1))], [mrow ms, .cells [.v (.int .i64 x.t), .v (.string (B x.s)), .v (.int .u64 x.q), .v (.bool x.g), .v (.string (B x.b))] 89]⟩) (fun i => ms.length - i.1) ⟨0, by omega, fun j hj => absurd hj (Nat.not_lt_zero j)⟩ ⟨[0, 1], (LeR.of (by rw [hbl]; decide) (by simp only [GA, ↓GB, GX, simprocAttr, GDs]) (by simp only [GA, ↓GB, GX, simprocAttr, GDs]) (by decide) (by simp only [GA, ↓GB, GX, simprocAttr, GDs]) (by simp only [GA, ↓GB, GX, simprocAttr, GDs]) (by simp only [GA, ↓GB, GX, simprocAttr, GDs]))⟩ ?_ <;> rintro ⟨i, hi, hno⟩ <;> simp only [] at hi hno ⊢)
    | (refine ⟨(ms.getD i default).cells, rfl, mks_at _ _ (by omega), ?_⟩ <;> simp only [Rs.cells, GA, ↓GB, GX, simprocAttr, hnt, hT])
    | (refine SX.block ?_)
    | (refine and_mk ?_ ?_; (focus first | decide | omega | rfl | assumption | (simp only [LBs]; omega) | (simp; done)))
    | (refine And.intro ?_ ?_))
  all_goals (try refine Done.mk ?_)
  · exact hN0 _ _ ⟨rfl, by rw [idxN _ _ i (by omega) hb hno]; rfl⟩
  · refine ⟨⟨i + 1, by omega, fun j hj => ?_⟩, [0, 1], (LeR.of (by rw [hbl]; decide) (by simp only [GA, ↓GB, GX, simprocAttr, GDs]; try (rw [wI64 (by omega) (by omega)]; simp)) (by simp only [GA, ↓GB, GX, simprocAttr, GDs]; try (rw [wI64 (by omega) (by omega)]; simp)) (by decide) (by simp only [GA, ↓GB, GX, simprocAttr, GDs]) (by simp only [GA, ↓GB, GX, simprocAttr, GDs]) (by simp only [GA, ↓GB, GX, simprocAttr, GDs])), by show ms.length - (i + 1) < ms.length - i; omega⟩
    rcases Nat.lt_or_eq_of_le (Nat.le_of_lt_succ hj) with h | h
    · exact hno j h
    · rw [h]; exact hb
  · exact hN0 _ _ ⟨rfl, by rw [idxNone _ _ (fun j hj => hno j (by omega))]; rfl⟩
end Go.Proofs.YtbdacbcpniegiaaDoor.Q
namespace Go.Proofs.YtbdacbcpniegiaaDoor.Q
open Go Go.RowKit Go.Proofs Go.Sx
theorem mks_one (ms : List Rs) : ∀ u ∈ mks ms, u.oneCell' = true := by
  intro u hu
  simp only [mks, List.mem_flatMap] at hu
  obtain ⟨m, _, hu⟩ := hu
  simp only [Rs.cells, List.mem_cons, List.not_mem_nil, or_false] at hu
  rcases hu with rfl | rfl | rfl | rfl | rfl <;> rfl
theorem clone_ctr (ms : List Rs) (hms : ms.length ≤ 1000000) : Ctr Tryd.prog [] 117 [mrow ms] [.one (.c (.row 0))]
    (fun os v => os = [mrow ms, mrow ms] ∧ v = .one (.c (.row 1))) := by
  refine Ctr.nilRow 89 5 (Ctr.less ?_)
  intro X0 hP0 hG0 N0 hN0
  refine CallVC.inline (f := 117) (by rw [hP0]; exact Tryd.func117) rfl Tryd.ntmps117 rfl (by simp) ?_
  intro X K hU hnt hbl hK
  have hP : X.P = Tryd.prog := hU.P.trans hP0
  have hG := hG0.under hU
  have hT := Ty.T117 hP
  simp only [GA, ↓GB, GX, simprocAttr] at hbl ⊢
  repeat' (first
    | (refine SX.seqK ?_; intro N hN)
    | ((first | (refine SX.ops ?_)); simp only [GA, ↓GB, GX, simprocAttr, hnt, hT])
    | ((first | refine SX.skip ?_ | refine SX.exit ?_ | refine SX.label ?_ | refine SX.ret ?_); try simp only [GA, ↓GB, GX, simprocAttr])
    | (refine hN _ ?_; clear hN N)
    | ((first | refine hK _ _ (FinI.ret3 ?_) | refine hK _ _ (FinI.nrm3 ?_)); simp only [GA, ↓GB, GX, simprocAttr, finP_s, hnt, hT]; refine Done.out ?_)
    | ((first | refine SX.cond rfl (fun hb => ?_) (fun hb => ?_) | (refine bif2.mk (fun hb => ?_) (fun hb => ?_) <;> (try simp only [hb, GA, ↓GB, GX, simprocAttr, hnt, hT]))) <;> ((first | cases hb | (simp only [HBs] at hb) | skip) <;> (first | (exfalso; omega) | skip)))
    | (refine VO.rowNil (e' := 89) rfl rfl rfl (by rw [hP]; kernel_rfl) (fun b hb0 => ?_) <;> simp only [GA, ↓GB, GX, simprocAttr, hnt, hT])
    | (refine VO.closeRow (t := 5) (j := 1) (us := []) (sz := 5) (e := 89) (n := 0) (cap := 0) rfl rfl rfl (Nat.le_refl _) (Nat.zero_le _) ?_ <;> refine VO.appendRow (i := 2) (j := 0) (e := 89) (e' := 89) (sz := 5) rfl rfl (by rw [hP]; exact Ty.ei79) rfl rfl (mks_one ms) (by simp only [maxLen]; omega) (by omega) ?_ <;> simp only [GA, ↓GB, GX, simprocAttr, hnt, hT, Nat.zero_add])
    | (refine and_mk ?_ ?_; (focus first | decide | omega | rfl | assumption | (simp only [LBs]; omega) | (simp; done)))
    | (refine And.intro ?_ ?_))
  all_goals (try refine Done.mk ?_)
  · have h0 := hb0 rfl
    obtain rfl : ms = [] := List.length_eq_zero_iff.1 h0
    refine hN0 _ _ ⟨[0], [mrow []], vv (.slice none 0 0), ?_, rfl, rfl, .inr ⟨rfl, rfl, rfl⟩⟩
    exact LeR.of rfl trivial ⟨.inr rfl, trivial⟩ (by decide) rfl rfl rfl
  · refine hN0 _ _ ⟨[0, 3], [mrow ms, mrow ms], .one (.c (.row 1)), ?_, rfl, rfl, .inl ⟨rfl, rfl⟩⟩
    exact LeR.of rfl trivial ⟨.inr rfl, .inr rfl, trivial⟩ (by decide) rfl rfl rfl
end Go.Proofs.YtbdacbcpniegiaaDoor.Q
namespace Go.Proofs.YtbdacbcpniegiaaDoor.Q
open Go Go.RowKit Go.Proofs Go.Sx
theorem idxI_spec (p : Rs → Bool) (ms : List Rs) : (idxI p ms = -1 ∧ ∀ j, j < ms.length → p (ms.getD j default) = false) ∨ ∃ k, k < ms.length ∧ idxI p ms = (k : Int) ∧ p (ms.getD k default) = true ∧ ∀ j, j < k → p (ms.getD j default) = false := by
  unfold idxI
  cases h : ms.findIdx? p with
  | none =>
    refine .inl ⟨rfl, fun j hj => ?_⟩
    rw [List.findIdx?_eq_none_iff] at h
    rw [List.getD_eq_getElem?_getD, List.getElem?_eq_getElem hj]
    exact h _ (List.getElem_mem hj)
  | some k =>
    rw [List.findIdx?_eq_some_iff_getElem] at h
    obtain ⟨hk, hp, hn⟩ := h
    refine .inr ⟨k, hk, rfl, by simpa [List.getD_eq_getElem?_getD, List.getElem?_eq_getElem hk] using hp, fun j hj => ?_⟩
    have := hn j hj
    simpa [List.getD_eq_getElem?_getD, List.getElem?_eq_getElem (show j < ms.length by omega)] using this
theorem filter_none (p : Rs → Bool) (ms : List Rs) (h : ∀ j, j < ms.length → p (ms.getD j default) = false) : (ms.filter fun m => !p m) = ms := by
  rw [List.filter_eq_self]
  intro x hx
  obtain ⟨j, hj, rfl⟩ := List.mem_iff_getElem.1 hx
  have := h j hj
  rw [List.getD_eq_getElem?_getD, List.getElem?_eq_getElem hj] at this
  simpa using this
theorem take_filter (p : Rs → Bool) (ms : List Rs) (k : Nat) (hk : k < ms.length) (hp : p (ms.getD k default) = true) (hn : ∀ j, j < k → p (ms.getD j default) = false) : ms.take k = ((ms.take (k + 1)).filter fun m => !p m) := by
  rw [List.take_succ_eq_append_getElem hk, List.filter_append]
  rw [List.getD_eq_getElem?_getD, List.getElem?_eq_getElem hk] at hp
  have h1 : ([ms[k]].filter fun m => !p m) = [] := by simp at hp; simp [hp]
  rw [h1, List.append_nil]
  refine (filter_none p _ fun j hj => ?_).symm
  have := hn j (by simp at hj; omega)
  simp only [List.getD_eq_getElem?_getD] at this ⊢
  rw [List.getElem?_take_of_lt (by simp at hj; omega)]
  exact this
theorem getD_drop (l ms : List Rs) (j : Nat) (h : l.drop j = ms.drop j) (hj : j < ms.length) : l.getD j default = ms.getD j default := by
  have := congrArg (fun x : List Rs => x[0]?) h
  simp only [List.getElem?_drop, Nat.add_zero] at this
  rw [List.getD_eq_getElem?_getD, List.getD_eq_getElem?_getD, this]
theorem mks_set : ∀ (l : List Rs) (i : Nat) (m : Rs), i < l.length → (mks l).take (i * 5) ++ m.cells ++ (mks l).drop (i * 5 + 5) = mks (l.set i m)
  | [], i, m, h => by simp at h
  | x :: l, 0, m, h => by
    simp only [Nat.zero_mul, List.take_zero, List.nil_append, List.set_cons_zero, mks_cons, Nat.zero_add]
    rw [List.drop_append, List.drop_of_length_le (by simp [Rs.cells])]
    simp [Rs.cells]
  | x :: l, i + 1, m, h => by
    have := mks_set l i m (by simpa using h)
    rw [List.set_cons_succ, mks_cons, mks_cons, ← this, show (i + 1) * 5 = x.cells.length + i * 5 by simp [Rs.cells]; omega, List.take_append, List.take_of_length_le (by omega), Nat.add_assoc, List.drop_append, List.drop_of_length_le (by omega)]
    simp
theorem lp_keep (p : Rs → Bool) (ms l : List Rs) (i j : Nat) (hl : l.length = ms.length) (hij : i < j) (hj : j < ms.length) (hft : l.take i = ((ms.take j).filter fun m => !p m)) (hp : p (ms.getD j default) = false) :
    (l.set i (ms.getD j default)).take (i + 1) = ((ms.take (j + 1)).filter fun m => !p m) := by
  have e : ms.getD j default = ms[j] := by rw [List.getD_eq_getElem?_getD, List.getElem?_eq_getElem hj]; rfl
  generalize ms.getD j default = v at *
  rw [List.take_succ_eq_append_getElem (by simp; omega), List.take_succ_eq_append_getElem hj, List.filter_append, ← hft, List.take_set_of_le (Nat.le_refl _), ← e]
  simp [hp]
theorem lp_skip (p : Rs → Bool) (ms l : List Rs) (i j : Nat) (hj : j < ms.length) (hft : l.take i = ((ms.take j).filter fun m => !p m)) (hp : p (ms.getD j default) = true) :
    l.take i = ((ms.take (j + 1)).filter fun m => !p m) := by
  have e : ms.getD j default = ms[j] := by rw [List.getD_eq_getElem?_getD, List.getElem?_eq_getElem hj]; rfl
  rw [List.take_succ_eq_append_getElem hj, List.filter_append, ← hft]
  rw [e] at hp
  simp [hp]
theorem lp_drop (ms l : List Rs) (i j : Nat) (v : Rs) (hij : i < j) (hdr : l.drop j = ms.drop j) : (l.set i v).drop (j + 1) = ms.drop (j + 1) := by
  rw [List.drop_set_of_lt (by omega), ← List.drop_drop (i := 1) (j := j), ← List.drop_drop (i := 1) (j := j), hdr]
theorem lp_drop' (ms l : List Rs) (j : Nat) (hdr : l.drop j = ms.drop j) : l.drop (j + 1) = ms.drop (j + 1) := by
  rw [← List.drop_drop (i := 1) (j := j), ← List.drop_drop (i := 1) (j := j), hdr]
theorem lp_end (p : Rs → Bool) (ms l : List Rs) (i j : Nat) (ys vs ds : List Value) (hl : l.length = ms.length) (hij : i < j) (hj : j = ms.length) (hft : l.take i = ((ms.take j).filter fun m => !p m)) :
    LO.row 89 5 i (List.take (i * 5) (List.take (0 + i * 5) (mks l ++ ys) ++ vs ++ ds)) = mrow (ms.filter fun m => !p m) := by
  subst hj
  rw [List.take_length] at hft
  have hi : (ms.filter fun m => !p m).length = i := by rw [← hft]; simp; omega
  have hle : i * 5 ≤ (mks l).length := by rw [mks_length]; omega
  simp only [Nat.zero_add, mrow, hi]
  congr 1
  rw [List.append_assoc, List.take_append_of_le_length (by simp; omega), List.take_take, Nat.min_self, List.take_append_of_le_length hle, mks_take, hft]
theorem deleteFuncK (ms : List Rs) (hms : ms.length ≤ 1000000) (b : Int) (t : List UInt8) : Ctr Tryd.prog [] 116 [mrow ms, .cells [.v (.int .i64 b), .v (.string (B t))] 26] [.one (.c (.row 0)), .one (.c (.clo 147 [] [.loc 1 0]))]
    (fun os v => os = [.gone, .cells [.v (.int .i64 b), .v (.string (B t))] 26, mrow (ms.filter fun m => !(isK b t) m)] ∧ v = .one (.c (.row 2))) := by
  refine Ctr.less ?_
  have hrun : ∀ m : Rs, Ctr Tryd.prog [] 147 [.cells [.v (.int .i64 b), .v (.string (B t))] 26] [.one (.agg [.v (.int .i64 m.t), .v (.string (B m.s)), .v (.int .u64 m.q), .v (.bool m.g), .v (.string (B m.b))]), .one (.c (.loc 0 0))]
    (fun os v => os = [.cells [.v (.int .i64 b), .v (.string (B t))] 26] ∧ v = vv (.bool ((isK b t) m))) := fun m => of1_ctr m b t
  rcases idxI_spec (isK b t) ms with ⟨he, hall⟩ | ⟨k0, hk0, he, hp0, hn0⟩
  · have hfil : (ms.filter fun m => !(isK b t) m) = ms := filter_none _ ms hall
    rw [hfil]
    intro X0 hP0 hG0 N0 hN0
    refine CallVC.inline (f := 116) (by rw [hP0]; exact Tryd.func116) rfl Tryd.ntmps116 rfl (by simp) ?_
    intro X K hU hnt hbl hK
    have hP : X.P = Tryd.prog := hU.P.trans hP0
    have hG := hG0.under hU
    have hT := Ty.T116 hP
    simp only [GA, ↓GB, GX, simprocAttr] at hbl ⊢
    have hc : calleeOk X.P 147 = true := by rw [hP]; kernel_rfl
    refine SX.moveRow (t := 0) (i := 0) rfl rfl ?_
    simp only [GA, ↓GB, GX, simprocAttr]
    repeat' (first
      | (refine SX.seqK ?_; intro N hN)
      | ((first | (refine SX.ops ?_)); simp only [GA, ↓GB, GX, simprocAttr, hnt, hT, hc, he])
      | ((first | refine SX.skip ?_ | refine SX.exit ?_ | refine SX.label ?_ | refine SX.ret ?_); try simp only [GA, ↓GB, GX, simprocAttr])
      | (refine hN _ ?_; clear hN N)
      | ((first | refine hK _ _ (FinI.ret3 ?_) | refine hK _ _ (FinI.nrm3 ?_)); simp only [GA, ↓GB, GX, simprocAttr, finP_s, hnt, hT, hc, he]; refine Done.out ?_)
      | (clear hN N; first | (refine hN _ ?_; clear hN N) | (clear hN N; refine hN _ ?_; clear hN N))
      | ((first | refine SX.cond rfl (fun hb => ?_) (fun hb => ?_) | (refine bif2.mk (fun hb => ?_) (fun hb => ?_) <;> (try simp only [hb, GA, ↓GB, GX, simprocAttr, hnt, hT, hc, he]))) <;> ((first | cases hb | (simp only [HBs] at hb) | skip) <;> (first | (exfalso; omega) | skip)))
      | ((first | (refine Ctr.use (hrun (ms.getD j default)) hP ?_ [1] ?_ rfl rfl ?_; (focus (intro p hp; cases hp)); (focus (refine LeR.of rfl trivial ?_ ?_ ?_ ?_ ?_ <;> first | decide | (simp only [GA, ↓GB, GX, simprocAttr, GDs]; done))); intro os' s hR; obtain ⟨rfl, rfl⟩ := hR) | (refine Ctr.use (indexFuncK ms hms b t) hP ?_ [2,1] ?_ rfl rfl ?_; (focus (intro p hp; cases hp)); (focus (refine LeR.of rfl trivial ?_ ?_ ?_ ?_ ?_ <;> first | decide | (simp only [GA, ↓GB, GX, simprocAttr, GDs]; done))); intro os' s hR; obtain ⟨rfl, rfl⟩ := hR)); simp only [GA, ↓GB, GX, simprocAttr, hnt, hT, hc, he])
      | (refine SX.block ?_)
      | (refine and_mk ?_ ?_; (focus first | decide | omega | rfl | assumption | (simp only [LBs]; omega) | (simp; done)))
      | (refine And.intro ?_ ?_))
    all_goals (try refine Done.mk ?_)
    all_goals ((refine hN0 _ _ ⟨[0, 1, 2], _, _, ?_, ?_, ?_, ⟨rfl, rfl⟩⟩; (focus exact LeR.of rfl trivial (by simp only [GA, ↓GB, GX, simprocAttr, GDs]) (by decide) rfl rfl rfl); rotate_left; (focus rfl)))
    all_goals rfl
  · intro X0 hP0 hG0 N0 hN0
    refine CallVC.inline (f := 116) (by rw [hP0]; exact Tryd.func116) rfl Tryd.ntmps116 rfl (by simp) ?_
    intro X K hU hnt hbl hK
    have hP : X.P = Tryd.prog := hU.P.trans hP0
    have hG := hG0.under hU
    have hT := Ty.T116 hP
    simp only [GA, ↓GB, GX, simprocAttr] at hbl ⊢
    have hc : calleeOk X.P 147 = true := by rw [hP]; kernel_rfl
    refine SX.moveRow (t := 0) (i := 0) rfl rfl ?_
    simp only [GA, ↓GB, GX, simprocAttr]
    repeat' (first
      | (refine SX.openRow (code := .seq (.region 11 _ _) _) (t := 0) (i := 2) rfl rfl (by omega) (fun cap ys hcap1 hcap2 hys => ?_) <;> simp only [GA, ↓GB, GX, simprocAttr])
      | (refine SX.closeRow (code := .ret) (t := 4) (j := 3) (sz := 5) (cap := cap) (n := i) rfl rfl (by simp only [List.length_append, List.length_take, List.length_drop, mks_length, hvs, hys]; omega) (by omega) hcap2 ?_ <;> simp only [GA, ↓GB, GX, simprocAttr])
      | (refine SX.seqK ?_; intro N hN)
      | ((first | (refine SX.ops ?_)); simp only [GA, ↓GB, GX, simprocAttr, hnt, hT, hc, he])
      | ((first | refine SX.skip ?_ | refine SX.exit ?_ | refine SX.label ?_ | refine SX.ret ?_); try simp only [GA, ↓GB, GX, simprocAttr])
      | (refine hN _ ?_; clear hN N)
      | ((first | refine hK _ _ (FinI.ret3 ?_) | refine hK _ _ (FinI.nrm3 ?_)); simp only [GA, ↓GB, GX, simprocAttr, finP_s, hnt, hT, hc, he]; refine Done.out ?_)
      | (clear hN N; first | (refine hN _ ?_; clear hN N) | (clear hN N; refine hN _ ?_; clear hN N))
      | ((first | refine SX.cond rfl (fun hb => ?_) (fun hb => ?_) | (refine bif2.mk (fun hb => ?_) (fun hb => ?_) <;> (try simp only [hb, GA, ↓GB, GX, simprocAttr, hnt, hT, hc, he]))) <;> ((first | cases hb | (simp only [HBs] at hb) | skip) <;> (first | (exfalso; omega) | skip)))
      | ((first | (refine Ctr.use (hrun (ms.getD j default)) hP ?_ [1] ?_ rfl rfl ?_; (focus (intro p hp; cases hp)); (focus (refine LeR.of rfl trivial ?_ ?_ ?_ ?_ ?_ <;> first | decide | (simp only [GA, ↓GB, GX, simprocAttr, GDs]; done))); intro os' s hR; obtain ⟨rfl, rfl⟩ := hR) | (refine Ctr.use (indexFuncK ms hms b t) hP ?_ [2,1] ?_ rfl rfl ?_; (focus (intro p hp; cases hp)); (focus (refine LeR.of rfl trivial ?_ ?_ ?_ ?_ ?_ <;> first | decide | (simp only [GA, ↓GB, GX, simprocAttr, GDs]; done))); intro os' s hR; obtain ⟨rfl, rfl⟩ := hR)); simp only [GA, ↓GB, GX, simprocAttr, hnt, hT, hc, he])
      | (refine SX.loop (ι := { p : Nat × Nat × List Rs // p.1 < p.2.1 ∧ p.2.1 ≤ ms.length ∧ p.2.2.length = ms.length ∧ p.2.2.take p.1 = ((ms.take p.2.1).filter fun m => !(isK b t) m) ∧ p.2.2.drop p.2.1 = ms.drop p.2.1 }) (fun i => ⟨[(0, .one (.c (.row 2))), (1, .one (.c (.clo 147 [] [.loc 1 0]))), (5, vv (.int .i64 i.1.1)), (6, vv (.int .i64 i.1.2.1))], [.gone, .cells [.v (.int .i64 b), .v (.string (B t))] 26, .row 89 5 ms.length (mks i.1.2.2)]⟩) (fun i => ms.length - i.1.2.1) ⟨(k0, k0 + 1, ms), by simp, by simp; omega, rfl, take_filter _ ms k0 hk0 hp0 hn0, rfl⟩ ⟨[0, 1, 2], (LeR.of (by rw [hbl]; decide) (by simp only [GA, ↓GB, GX, simprocAttr, GDs]; try (rw [wI64 (by omega) (by omega)]; rfl)) (by simp only [GA, ↓GB, GX, simprocAttr, GDs]; try (rw [wI64 (by omega) (by omega)]; rfl)) (by decide) (by simp only [GA, ↓GB, GX, simprocAttr, GDs]) (by simp only [GA, ↓GB, GX, simprocAttr, GDs]) (by simp only [GA, ↓GB, GX, simprocAttr, GDs]))⟩ ?_ <;> rintro ⟨⟨i, j, l⟩, hij, hjn, hl, hft, hdr⟩ <;> simp only [] at hij hjn hl hft hdr ⊢)
      | (refine ⟨(ms.getD j default).cells, rfl, (by rw [← getD_drop l ms j hdr (by omega)]; exact mks_at l j (by omega)), ?_⟩ <;> simp only [Rs.cells, GA, ↓GB, GX, simprocAttr, hnt, hT])
      | (refine ⟨by rw [mks_length]; omega, ?_⟩)
      | ((rw [if_neg (show ¬ cap = i by omega)] <;> show VO X _ _ _ <;> refine VO.clearSl (j := 3) (e1 := 89) (us := mks l ++ ys) rfl (by rw [hP]; exact Ty.ei79) rfl (by rw [List.length_append, mks_length, hys]; omega) (fun q hq => by have hq : q < 5 := hq; rcases q with _ | _ | _ | _ | _ | q <;> first | rfl | omega) (by omega) rfl (fun vs hvs => ?_) <;> simp only [GA, ↓GB, GX, simprocAttr, hnt, hT]))
      | (refine SX.block ?_)
      | (refine and_mk ?_ ?_; (focus first | decide | omega | rfl | assumption | (simp only [LBs]; omega) | (simp; done)))
      | (refine And.intro ?_ ?_))
    all_goals (try refine Done.mk ?_)
    · refine ⟨⟨(i + 1, j + 1, l.set i (ms.getD j default)), by show i + 1 < j + 1; omega, by show j + 1 ≤ ms.length; omega, by show (l.set i (ms.getD j default)).length = ms.length; rw [List.length_set]; exact hl, lp_keep _ ms l i j hl hij (by omega) hft (by assumption), lp_drop ms l i j _ hij hdr⟩, [0, 1, 2], (LeR.of (by rw [hbl]; decide) (by simp only [GA, ↓GB, GX, simprocAttr, GDs]; try (first | (refine ⟨?_, ?_⟩ <;> (rw [wI64 (by omega) (by omega)]; rfl)) | exact congrArg _ (mks_set l i (ms.getD j default) (by omega)))) (by simp only [GA, ↓GB, GX, simprocAttr, GDs]; try (first | (refine ⟨?_, ?_⟩ <;> (rw [wI64 (by omega) (by omega)]; rfl)) | exact congrArg _ (mks_set l i (ms.getD j default) (by omega)))) (by decide) (by simp only [GA, ↓GB, GX, simprocAttr, GDs]) (by simp only [GA, ↓GB, GX, simprocAttr, GDs]) (by simp only [GA, ↓GB, GX, simprocAttr, GDs])), by show ms.length - (j + 1) < ms.length - j; omega⟩
    · refine ⟨⟨(i, j + 1, l), by show i < j + 1; omega, by show j + 1 ≤ ms.length; omega, hl, lp_skip _ ms l i j (by omega) hft (by assumption), lp_drop' ms l j hdr⟩, [0, 1, 2], (LeR.of (by rw [hbl]; decide) (by simp only [GA, ↓GB, GX, simprocAttr, GDs]; try ((rw [wI64 (by omega) (by omega)]; rfl))) (by simp only [GA, ↓GB, GX, simprocAttr, GDs]; try ((rw [wI64 (by omega) (by omega)]; rfl))) (by decide) (by simp only [GA, ↓GB, GX, simprocAttr, GDs]) (by simp only [GA, ↓GB, GX, simprocAttr, GDs]) (by simp only [GA, ↓GB, GX, simprocAttr, GDs])), by show ms.length - (j + 1) < ms.length - j; omega⟩
    · rw [lp_end (isK b t) ms l i j ys vs _ hl hij (by omega) hft]
      (refine hN0 _ _ ⟨[0, 1, 4], _, _, ?_, ?_, ?_, ⟨rfl, rfl⟩⟩; (focus exact LeR.of rfl trivial (by simp only [GA, ↓GB, GX, simprocAttr, GDs]) (by decide) rfl rfl rfl); rotate_left; (focus rfl))
      rfl
end Go.Proofs.YtbdacbcpniegiaaDoor.Q
namespace Go.Proofs.YtbdacbcpniegiaaDoor.Q
open Go Go.RowKit Go.Proofs Go.Sx
theorem insert_end (ms : List Rs) (hms : ms.length ≤ 1000000) (m : Rs) : Ctr Tryd.prog [] 114 [mrow ms, .cells [.v (.int .i64 m.t), .v (.string (B m.s)), .v (.int .u64 m.q), .v (.bool m.g), .v (.string (B m.b))] 89] [.one (.c (.row 0)), vv (.int .i64 ms.length), .one (.c (.sl 1 0 1 1))]
    (fun os v => os = [.gone, .cells [.v (.int .i64 m.t), .v (.string (B m.s)), .v (.int .u64 m.q), .v (.bool m.g), .v (.string (B m.b))] 89, mrow (ms ++ [m])] ∧ v = .one (.c (.row 2))) := by
  refine Ctr.less ?_
  intro X0 hP0 hG0 N0 hN0
  refine CallVC.inline (f := 114) (by rw [hP0]; exact Tryd.func114) rfl Tryd.ntmps114 rfl (by simp) ?_
  intro X K hU hnt hbl hK
  have hP : X.P = Tryd.prog := hU.P.trans hP0
  have hG := hG0.under hU
  have hT := Ty.T114 hP
  simp only [GA, ↓GB, GX, simprocAttr] at hbl ⊢
  repeat' (first
    | (exact absurd hb (by simp))
    | (refine SX.seqK ?_; intro N hN)
    | ((first | (refine SX.ops ?_) | (refine SX.planT (id := 11) [.q [(0, [9]), (1, [1]), (2, [7]), (3, [47, 48]), (4, [46, 49]), (5, [0]), (6, [1]), (7, [51, 52])] none, .s 8] ?_ ?_ ?_; (focus first | (rw [hP]; kernel_rfl) | (rw [hU1P, hP]; kernel_rfl)); (focus kernel_rfl)) | (refine SX.planT (id := 15) [.q [(0, [0]), (1, [1]), (2, [7]), (3, [70, 71]), (4, [69, 72]), (5, [0]), (6, [1]), (7, [74, 75])] none, .s 8] ?_ ?_ ?_; (focus first | (rw [hP]; kernel_rfl) | (rw [hU1P, hP]; kernel_rfl)); (focus kernel_rfl))); simp only [GA, ↓GB, GX, simprocAttr, hnt, hT])
    | ((first | refine SX.skip ?_ | refine SX.exit ?_ | refine SX.label ?_ | refine SX.ret ?_); try simp only [GA, ↓GB, GX, simprocAttr])
    | (refine hN _ ?_; clear hN N)
    | ((first | refine hK _ _ (FinI.ret3 ?_) | refine hK _ _ (FinI.nrm3 ?_)); simp only [GA, ↓GB, GX, simprocAttr, finP_s, hnt, hT]; refine Done.out ?_)
    | ((first | refine SX.cond rfl (fun hb => ?_) (fun hb => ?_) | (refine bif2.mk (fun hb => ?_) (fun hb => ?_) <;> (try simp only [hb, GA, ↓GB, GX, simprocAttr, hnt, hT]))) <;> ((first | cases hb | (simp only [HBs] at hb) | skip) <;> (first | (exfalso; omega) | skip)))
    | (refine and_mk ?_ ?_; (focus first | decide | omega | rfl | assumption | (simp only [LBs]; omega) | (simp; done)))
    | (refine And.intro ?_ ?_))
  all_goals (try refine Done.mk ?_)
  have e : LO.row 89 5 (ms.length + 1) (mks ms ++ [Value.int IntKind.i64 m.t, Value.string (B m.s), Value.int IntKind.u64 m.q, Value.bool m.g, Value.string (B m.b)]) = mrow (ms ++ [m]) := by simp [mrow, mks_append, mks, Rs.cells]
  rw [e]
  (refine hN0 _ _ ⟨[0, 1, 2], _, _, ?_, ?_, ?_, ⟨rfl, rfl⟩⟩; (focus exact LeR.of rfl trivial (by simp only [GA, ↓GB, GX, simprocAttr, GDs]) (by decide) rfl rfl rfl); rotate_left; (focus rfl))
  rfl
end Go.Proofs.YtbdacbcpniegiaaDoor.Q
namespace Go.Proofs.YtbdacbcpniegiaaDoor.Q
open Go Go.RowKit Go.Proofs Go.Sx
abbrev zeroR : SV := .tup [.agg [.v (.int .i64 0), .v (.string (B [])), .v (.int .u64 0), .v (.bool false), .v (.string (B []))], .c (.v (.bool false))]
def findV : Option Rs → SV
  | some r => .tup [.agg [.v (.int .i64 r.t), .v (.string (B r.s)), .v (.int .u64 r.q), .v (.bool r.g), .v (.string (B r.b))], .c (.v (.bool true))]
  | none => zeroR
theorem find_none {p : Rs → Bool} {ms : List Rs} (h : ∀ j, j < ms.length → p (ms.getD j default) = false) : ms.find? p = none := by
  rw [List.find?_eq_none]
  intro x hx
  obtain ⟨j, hj, rfl⟩ := List.mem_iff_getElem.1 hx
  have := h j hj
  rw [List.getD_eq_getElem?_getD, List.getElem?_eq_getElem hj] at this
  simpa using this
theorem find_some {p : Rs → Bool} {ms : List Rs} {k : Nat} (hk : k < ms.length) (hp : p (ms.getD k default) = true) (hn : ∀ j, j < k → p (ms.getD j default) = false) : ms.find? p = some (ms.getD k default) := by
  rw [List.find?_eq_some_iff_getElem]
  refine ⟨hp, k, hk, by rw [List.getD_eq_getElem?_getD, List.getElem?_eq_getElem hk]; rfl, fun j hj => ?_⟩
  have := hn j hj
  rw [List.getD_eq_getElem?_getD, List.getElem?_eq_getElem (by omega)] at this
  simpa using this
theorem find_ctr (ms : List Rs) (hms : ms.length ≤ 1000000) (b : Int) (t : List UInt8) : Ctr Tryd.prog [] 54 [mrow ms] [.one (.c (.row 0)), .one (.agg [.v (.int .i64 b), .v (.string (B t))])] (fun os v => os = [mrow ms] ∧ v = findV (ms.find? (isK b t))) := by
  refine Ctr.less ?_
  rcases idxI_spec (isK b t) ms with ⟨he, hall⟩ | ⟨k, hk, he, hp, hn⟩
  · rw [find_none hall]
    intro X0 hP0 hG0 N0 hN0
    refine CallVC.inline (f := 54) (by rw [hP0]; exact Tryd.func54) rfl Tryd.ntmps54 rfl (by simp) ?_
    intro X K hU hnt hbl hK
    have hP : X.P = Tryd.prog := hU.P.trans hP0
    have hG := hG0.under hU
    have hT := Ty.T54 hP
    simp only [GA, ↓GB, GX, simprocAttr] at hbl ⊢
    have hnt1 := True.intro; have hT1 := True.intro; have hU1P := True.intro
    repeat' (first
      | (refine SX.seqK ?_; intro N hN)
      | ((first | (refine SX.ops ?_)); simp only [GA, ↓GB, GX, simprocAttr, hnt, hT, hnt1, hT1, hU1P, he])
      | ((first | refine SX.skip ?_ | refine SX.exit ?_ | refine SX.label ?_ | refine SX.ret ?_); try simp only [GA, ↓GB, GX, simprocAttr])
      | (refine hN _ ?_; clear hN N)
      | ((first | refine hK1 _ _ (FinI.ret3 ?_) | refine hK1 _ _ (FinI.nrm3 ?_)); (repeat (clear hN N)); clear hK1 K1; simp only [GA, ↓GB, GX, simprocAttr, finP_s, hnt, hT, hnt1, hT1, hU1P, he])
      | ((first | refine hK _ _ (FinI.ret3 ?_) | refine hK _ _ (FinI.nrm3 ?_)); simp only [GA, ↓GB, GX, simprocAttr, finP_s, hnt, hT, hnt1, hT1, hU1P, he]; refine Done.out ?_)
      | ((first | refine SX.cond rfl (fun hb => ?_) (fun hb => ?_) | (refine bif2.mk (fun hb => ?_) (fun hb => ?_) <;> (try simp only [hb, GA, ↓GB, GX, simprocAttr, hnt, hT, hnt1, hT1, hU1P, he]))) <;> ((first | cases hb | (simp only [HBs] at hb) | skip) <;> (first | (exfalso; omega) | skip)))
      | ((first | (refine Ctr.use (indexFuncK ms hms b t) hP ?_ [0,3] ?_ rfl rfl ?_; (focus (intro p hp; cases hp)); (focus (refine LeR.of rfl trivial ?_ ?_ ?_ ?_ ?_ <;> first | decide | (simp only [GA, ↓GB, GX, simprocAttr, GDs]; done))); intro os' s hR; obtain ⟨rfl, rfl⟩ := hR)); simp only [GA, ↓GB, GX, simprocAttr, hnt, hT, hnt1, hT1, hU1P, he])
      | (refine CallVC.inline (f := 115) ?_ rfl Tryd.ntmps115 rfl ?_ ?_; (focus rw [hP]; exact Tryd.func115); (focus simp); have hT1 := Ty.T115 hP; intro X1 K1 hU1 hnt1 hbl1 hK1; have hU1P := hU1.P; simp only [GA, ↓GB, GX, simprocAttr] at hbl1 ⊢)
      | ((first | (refine Ctr.use (indexFuncK ms hms b t) (hU1P.trans hP) ?_ [0,3] ?_ rfl rfl ?_; (focus (intro p hp; cases hp)); (focus (refine LeR.of rfl trivial ?_ ?_ ?_ ?_ ?_ <;> first | decide | (simp only [GA, ↓GB, GX, simprocAttr, GDs]; done))); intro os' s hR; obtain ⟨rfl, rfl⟩ := hR)); simp only [GA, ↓GB, GX, simprocAttr, hnt, hT, hnt1, hT1, hU1P, he])
      | (refine and_mk ?_ ?_; (focus first | decide | omega | rfl | assumption | (simp only [LBs]; omega) | (simp; done)))
      | (refine And.intro ?_ ?_))
    all_goals (try refine Done.mk ?_)
    all_goals ((refine hN0 _ _ ⟨[0], _, _, ?_, ?_, ?_, ⟨rfl, rfl⟩⟩; (focus exact LeR.of rfl trivial (by simp only [GA, ↓GB, GX, simprocAttr, GDs]) (by decide) rfl rfl rfl); rotate_left; (focus rfl)); rfl)
  · rw [find_some hk hp hn]
    intro X0 hP0 hG0 N0 hN0
    refine CallVC.inline (f := 54) (by rw [hP0]; exact Tryd.func54) rfl Tryd.ntmps54 rfl (by simp) ?_
    intro X K hU hnt hbl hK
    have hP : X.P = Tryd.prog := hU.P.trans hP0
    have hG := hG0.under hU
    have hT := Ty.T54 hP
    simp only [GA, ↓GB, GX, simprocAttr] at hbl ⊢
    have hnt1 := True.intro; have hT1 := True.intro; have hU1P := True.intro
    repeat' (first
      | (refine SX.seqK ?_; intro N hN)
      | ((first | (refine SX.ops ?_)); simp only [GA, ↓GB, GX, simprocAttr, hnt, hT, hnt1, hT1, hU1P, he])
      | ((first | refine SX.skip ?_ | refine SX.exit ?_ | refine SX.label ?_ | refine SX.ret ?_); try simp only [GA, ↓GB, GX, simprocAttr])
      | (refine hN _ ?_; clear hN N)
      | ((first | refine hK1 _ _ (FinI.ret3 ?_) | refine hK1 _ _ (FinI.nrm3 ?_)); (repeat (clear hN N)); clear hK1 K1; simp only [GA, ↓GB, GX, simprocAttr, finP_s, hnt, hT, hnt1, hT1, hU1P, he])
      | ((first | refine hK _ _ (FinI.ret3 ?_) | refine hK _ _ (FinI.nrm3 ?_)); simp only [GA, ↓GB, GX, simprocAttr, finP_s, hnt, hT, hnt1, hT1, hU1P, he]; refine Done.out ?_)
      | ((first | refine SX.cond rfl (fun hb => ?_) (fun hb => ?_) | (refine bif2.mk (fun hb => ?_) (fun hb => ?_) <;> (try simp only [hb, GA, ↓GB, GX, simprocAttr, hnt, hT, hnt1, hT1, hU1P, he]))) <;> ((first | cases hb | (simp only [HBs] at hb) | skip) <;> (first | (exfalso; omega) | skip)))
      | ((first | (refine Ctr.use (indexFuncK ms hms b t) hP ?_ [0,3] ?_ rfl rfl ?_; (focus (intro p hp; cases hp)); (focus (refine LeR.of rfl trivial ?_ ?_ ?_ ?_ ?_ <;> first | decide | (simp only [GA, ↓GB, GX, simprocAttr, GDs]; done))); intro os' s hR; obtain ⟨rfl, rfl⟩ := hR)); simp only [GA, ↓GB, GX, simprocAttr, hnt, hT, hnt1, hT1, hU1P, he])
      | (refine CallVC.inline (f := 115) ?_ rfl Tryd.ntmps115 rfl ?_ ?_; (focus rw [hP]; exact Tryd.func115); (focus simp); have hT1 := Ty.T115 hP; intro X1 K1 hU1 hnt1 hbl1 hK1; have hU1P := hU1.P; simp only [GA, ↓GB, GX, simprocAttr] at hbl1 ⊢)
      | (refine ⟨(ms.getD k default).cells, rfl, mks_at _ _ (by omega), ?_⟩ <;> simp only [Rs.cells, GA, ↓GB, GX, simprocAttr, hnt, hT])
      | ((first | (refine Ctr.use (indexFuncK ms hms b t) (hU1P.trans hP) ?_ [0,3] ?_ rfl rfl ?_; (focus (intro p hp; cases hp)); (focus (refine LeR.of rfl trivial ?_ ?_ ?_ ?_ ?_ <;> first | decide | (simp only [GA, ↓GB, GX, simprocAttr, GDs]; done))); intro os' s hR; obtain ⟨rfl, rfl⟩ := hR)); simp only [GA, ↓GB, GX, simprocAttr, hnt, hT, hnt1, hT1, hU1P, he])
      | (refine and_mk ?_ ?_; (focus first | decide | omega | rfl | assumption | (simp only [LBs]; omega) | (simp; done)))
      | (refine And.intro ?_ ?_))
    all_goals (try refine Done.mk ?_)
    all_goals ((refine hN0 _ _ ⟨[0], _, _, ?_, ?_, ?_, ⟨rfl, rfl⟩⟩; (focus exact LeR.of rfl trivial (by simp only [GA, ↓GB, GX, simprocAttr, GDs]) (by decide) rfl rfl rfl); rotate_left; (focus rfl)); rfl)
theorem cut_ctr (ms : List Rs) (hms : ms.length ≤ 1000000) (b : Int) (t : List UInt8) : Ctr Tryd.prog [] 55 [mrow ms] [.one (.c (.row 0)), .one (.agg [.v (.int .i64 b), .v (.string (B t))])] (fun os v => os = [mrow ms, mrow (ms.filter fun m => !isK b t m)] ∧ v = .one (.c (.row 1))) := by
  refine Ctr.less ?_
  intro X0 hP0 hG0 N0 hN0
  refine CallVC.inline (f := 55) (by rw [hP0]; exact Tryd.func55) rfl Tryd.ntmps55 rfl (by simp) ?_
  intro X K hU hnt hbl hK
  have hP : X.P = Tryd.prog := hU.P.trans hP0
  have hG := hG0.under hU
  have hT := Ty.T55 hP
  simp only [GA, ↓GB, GX, simprocAttr] at hbl ⊢
  have hnt1 := True.intro; have hT1 := True.intro; have hU1P := True.intro
  repeat' (first
    | (refine SX.seqK ?_; intro N hN)
    | ((first | (refine SX.ops ?_) | (refine SX.planT (id := 1) [.f 0, .b 1 2, .s 3, .s 4, .s 5] ?_ ?_ ?_; (focus first | (rw [hP]; kernel_rfl) | (rw [hU1P, hP]; kernel_rfl)); (focus kernel_rfl))); simp only [GA, ↓GB, GX, simprocAttr, hnt, hT, hnt1, hT1, hU1P])
    | ((first | refine SX.skip ?_ | refine SX.exit ?_ | refine SX.label ?_ | refine SX.ret ?_); try simp only [GA, ↓GB, GX, simprocAttr])
    | (refine hN _ ?_; clear hN N)
    | ((first | refine hK1 _ _ (FinI.ret3 ?_) | refine hK1 _ _ (FinI.nrm3 ?_)); (repeat (clear hN N)); clear hK1 K1; simp only [GA, ↓GB, GX, simprocAttr, finP_s, hnt, hT, hnt1, hT1, hU1P])
    | ((first | refine hK _ _ (FinI.ret3 ?_) | refine hK _ _ (FinI.nrm3 ?_)); simp only [GA, ↓GB, GX, simprocAttr, finP_s, hnt, hT, hnt1, hT1, hU1P]; refine Done.out ?_)
    | (refine bif2.mk (fun hb => ?_) (fun hb => ?_) <;> (try simp only [hb, GA, ↓GB, GX, simprocAttr, hnt, hT, hnt1, hT1, hU1P]) <;> ((first | cases hb | (simp only [HBs] at hb) | skip) <;> (first | (exfalso; omega) | skip)))
    | ((first | (refine Ctr.use (clone_ctr ms hms) hP ?_ [0] ?_ rfl rfl ?_; (focus (intro p hp; cases hp)); (focus (refine LeR.of rfl trivial ?_ ?_ ?_ ?_ ?_ <;> first | decide | (simp only [GA, ↓GB, GX, simprocAttr, GDs]; done))); intro os' s hR; obtain ⟨rfl, rfl⟩ := hR) | (refine Ctr.use (deleteFuncK ms hms b t) hP ?_ [2,3] ?_ rfl rfl ?_; (focus (intro p hp; cases hp)); (focus (refine LeR.of rfl trivial ?_ ?_ ?_ ?_ ?_ <;> first | decide | (simp only [GA, ↓GB, GX, simprocAttr, GDs]; done))); intro os' s hR; obtain ⟨rfl, rfl⟩ := hR)); simp only [GA, ↓GB, GX, simprocAttr, hnt, hT, hnt1, hT1, hU1P])
    | (refine CallVC.inline (f := 115) ?_ rfl Tryd.ntmps115 rfl ?_ ?_; (focus rw [hP]; exact Tryd.func115); (focus simp); have hT1 := Ty.T115 hP; intro X1 K1 hU1 hnt1 hbl1 hK1; have hU1P := hU1.P; simp only [GA, ↓GB, GX, simprocAttr] at hbl1 ⊢)
    | ((first | (refine Ctr.use (clone_ctr ms hms) (hU1P.trans hP) ?_ [0] ?_ rfl rfl ?_; (focus (intro p hp; cases hp)); (focus (refine LeR.of rfl trivial ?_ ?_ ?_ ?_ ?_ <;> first | decide | (simp only [GA, ↓GB, GX, simprocAttr, GDs]; done))); intro os' s hR; obtain ⟨rfl, rfl⟩ := hR) | (refine Ctr.use (deleteFuncK ms hms b t) (hU1P.trans hP) ?_ [2,3] ?_ rfl rfl ?_; (focus (intro p hp; cases hp)); (focus (refine LeR.of rfl trivial ?_ ?_ ?_ ?_ ?_ <;> first | decide | (simp only [GA, ↓GB, GX, simprocAttr, GDs]; done))); intro os' s hR; obtain ⟨rfl, rfl⟩ := hR)); simp only [GA, ↓GB, GX, simprocAttr, hnt, hT, hnt1, hT1, hU1P])
    | (refine and_mk ?_ ?_; (focus first | decide | omega | rfl | assumption | (simp only [LBs]; omega) | (simp; done)))
    | (refine And.intro ?_ ?_))
  all_goals (try refine Done.mk ?_)
  all_goals ((refine hN0 _ _ ⟨[0, 4], _, _, ?_, ?_, ?_, ⟨rfl, rfl⟩⟩; (focus exact LeR.of rfl trivial (by simp only [GA, ↓GB, GX, simprocAttr, GDs]) (by decide) rfl rfl rfl); rotate_left; (focus rfl)); rfl)
end Go.Proofs.YtbdacbcpniegiaaDoor.Q
namespace Go.Proofs.YtbdacbcpniegiaaDoor.Q
open Go Go.RowKit Go.Proofs Go.Sx
def cutL (x : Rs) (ms : List Rs) : List Rs := ms.filter fun m => !isK x.t x.s m
def setL (ms : List Rs) (x : Rs) : List Rs := match (cutL x ms).findIdx? (isO x) with
  | some k => (cutL x ms).take k ++ x :: (cutL x ms).drop k
  | none => cutL x ms ++ [x]
end Go.Proofs.YtbdacbcpniegiaaDoor.Q
namespace Go.Sx
open Go Go.RowKit
def PA (X : Ctx) (o1 o2 : Oper) (c : Cfg) (N : Cfg → Prop) : Prop :=
  ∀ (ops : Array Oper) (rest : List Oper) (M : Cfg → Prop), (∀ c', N c' → OX X ops rest c' M) → OX X ops (o1 :: o2 :: rest) c M
section
variable {X : Ctx} {c : Cfg} {N : Cfg → Prop} {d : Option Tmp} {ty ty1 : TypeId} {pos pos1 : String} {af af1 : Array Edge} {g : Option (Nat × Bool)}
theorem PA.nil {o1 o2 : Oper} {t : Tmp} (e sz : Nat) (hx : c.ev (.tmp t) = vv (.slice none 0 0)) (hl : ∃ s, c.env.lookup t = some s)
    (h : PA X o1 o2 { env := (t, .one (.c (.row c.loc.length))) :: c.env, loc := c.loc ++ [.row e sz 0 []] } N) : PA X o1 o2 c N := fun ops rest M hM Q hQ ρ σ a w hr => by
  refine h ops rest M hM Q hQ (ρ ++ [[]]) (σ ++ [Value.slice none 0 0]) a w ?_
  have h1 := hr.nilRow e sz
  refine ⟨fun t' s' he => ?_, h1.len, h1.lenS, h1.loc, h1.inj, h1.lt, h1.fresh, h1.low, h1.defers, h1.size, h1.one, h1.pin⟩
  simp only [List.lookup_cons] at he
  by_cases e : t' = t
  · subst e
    simp at he; subst he
    obtain ⟨s, hs⟩ := hl
    obtain ⟨v, hv, hd⟩ := hr.env t' s hs
    simp only [Cfg.ev, Cfg.get, hs, Option.getD_some] at hx
    subst hx
    obtain rfl : v = .slice none 0 0 := hd
    refine ⟨_, hv, ?_⟩
    show (σ ++ [_])[c.loc.length]? = _
    rw [← hr.lenS]; simp
  · have hb : (t' == t) = false := by simpa using e
    rw [hb] at he
    exact h1.env t' s' he
theorem SX.asRow {code : Code} {K : Exit → Cfg → Prop} {t : Tmp} (e sz : Nat) (hx : c.ev (.tmp t) = vv (.slice none 0 0)) (hl : ∃ s, c.env.lookup t = some s)
    (h : SX X code { env := (t, .one (.c (.row c.loc.length))) :: c.env, loc := c.loc ++ [.row e sz 0 []] } K) : SX X code c K := fun ρ σ a w hr => by
  refine h (ρ ++ [[]]) (σ ++ [Value.slice none 0 0]) a w ?_
  have h1 := hr.nilRow e sz
  refine ⟨fun t' s' he => ?_, h1.len, h1.lenS, h1.loc, h1.inj, h1.lt, h1.fresh, h1.low, h1.defers, h1.size, h1.one, h1.pin⟩
  simp only [List.lookup_cons] at he
  by_cases e : t' = t
  · subst e
    simp at he; subst he
    obtain ⟨s, hs⟩ := hl
    obtain ⟨v, hv, hd⟩ := hr.env t' s hs
    simp only [Cfg.ev, Cfg.get, hs, Option.getD_some] at hx
    subst hx
    obtain rfl : v = .slice none 0 0 := hd
    refine ⟨_, hv, ?_⟩
    show (σ ++ [_])[c.loc.length]? = _
    rw [← hr.lenS]; simp
  · have hb : (t' == t) = false := by simpa using e
    rw [hb] at he
    exact h1.env t' s' he
theorem PA.part {x0 x : Operand} {lo hi : Option Operand} {t e e' i j m sz n k by_ : Nat} {t1 : Tmp} {xs ys : List Value} {z : Value} {l h : Option Int} (news : List Value)
    (hx : c.ev x = .one (.c (.row j))) (hlo : optI c lo = some l) (hhi : optI c hi = some h) (hx0 : (c.put (some t1) (.one (.c .dead))).ev x0 = .one (.c (.row i)))
    (hi0 : c.loc[i]? = some (.row e sz n xs)) (hj0 : c.loc[j]? = some (.row e' sz m ys)) (ht : elemInf X.P t = some (e, sz, by_, z)) (hes : elemSz X.P t = some (e, sz))
    (h0 : 0 ≤ l.getD 0) (h1 : l.getD 0 ≤ h.getD m) (h2 : h.getD m ≤ m) (hk : k = (h.getD m).toNat - (l.getD 0).toNat) (hnw : news = (ys.drop ((l.getD 0).toNat * sz)).take (k * sz))
    (hone : ∀ u ∈ news, u.oneCell' = true) (h63 : n + k ≤ maxLen) (hby : (n + k) * by_ ≤ 140737488355328) (hd1 : dOk (some t1) X.nt = true)
    (hN : nxt X d N { (c.put (some t1) (.one (.c .dead))) with loc := c.loc.set i .gone ++ [.row e sz (n + k) (xs ++ news)] } (.one (.c (.row c.loc.length)))) :
    PA X ⟨some t1, .slice t x lo hi none, ty1, pos1, af1, none⟩ ⟨d, .call { callee := .builtin .append, args := #[x0, .tmp t1], argTypes := #[t, t] }, ty, pos, af, none⟩ c N := fun ops rest M hM Q hQ ρ σ a w hr => by
  have e1 := hr.ev x
  rw [hx] at e1
  have e1 : σ[j]? = some (a.eval x) := e1
  obtain ⟨hu, ti, hti, hz, hsz, hby', hzs, hs0⟩ := elemInf_spec ht
  obtain ⟨fq, hfq⟩ := hr.locAt hj0
  have hdj := hr.loc j _ fq _ hj0 hfq e1
  have hlb : BoundIs (lo.map a.eval) 0 (l.getD 0).toNat := optI_bound (n := 0) hr hlo (by simpa using h0)
  have hhb := optI_bound (n := m) hr hhi (by omega)
  have hsz' : ∀ w, (Go.sizeOf e).run X.P w = .ok sz w := by
    unfold elemSz at hes
    rw [hu] at hes
    cases hz2 : szOf X.P e with
    | none => simp [hz2] at hes
    | some r => simp [hz2] at hes; subst hes; exact sizeOf_run hz2
  have hyl : ys.length = m * sz := hdj.1.1
  obtain ⟨L, hL⟩ : ∃ L, L = (l.getD 0).toNat := ⟨_, rfl⟩
  obtain ⟨H, hH⟩ : ∃ H, H = (h.getD m).toNat := ⟨_, rfl⟩
  rw [← hL] at hlb hk hnw
  rw [← hH] at hhb hk
  have hLH : L ≤ H := by omega
  have hHm : H ≤ m := by omega
  have hnl : news.length = k * sz := by
    rw [hnw, List.length_take, List.length_drop, hyl, ← Nat.sub_mul]
    exact Nat.min_eq_left (Nat.mul_le_mul_right _ (by omega))
  have hget : ∀ q u, news[q]? = some u → ys[L * sz + q]? = some u := by
    intro q u hq
    rw [hnw, List.getElem?_take] at hq
    split at hq
    · rwa [List.getElem?_drop] at hq
    · cases hq
  obtain ⟨v1, hrun1, hv1⟩ : ∃ v1, (execOp a.eval ⟨some t1, .slice t x lo hi none, ty1, pos1, af1, none⟩).run X.P w = .ok (.value v1) w ∧
      ((v1 = .slice none 0 0 ∧ k = 0) ∨ ∃ ad cap, v1 = .slice (some ad) k cap ∧ ∀ q u, news[q]? = some u → w.cell? (ad.add q) = some u) := by
    rcases hdj.1.2 with ⟨e3, hm0⟩ | ⟨gg, cap, cur, e3, _, _, hnc, _⟩
    · subst hm0
      obtain rfl : L = 0 := by omega
      obtain rfl : H = 0 := by omega
      have hrun := run_sliceSl (P := X.P) w hu hsz' none 0 0 _ _ _ _ hlb hhb (Nat.le_refl _) (Nat.le_refl _)
      exact ⟨_, by simp only [execOp, e3, Option.map_none, Sem.run_bind]; rw [hrun]; rfl, .inl ⟨by simp, by omega⟩⟩
    · have hrun := run_sliceSl (P := X.P) w hu hsz' (some ⟨gg, 0, none⟩) m cap _ _ _ _ hlb hhb hLH (by omega)
      refine ⟨_, by simp only [execOp, e3, Option.map_none, Sem.run_bind]; rw [hrun]; rfl, .inr ?_⟩
      by_cases hc : cap = L
      · rw [if_pos hc]
        refine ⟨_, _, by rw [show H - L = k by omega], fun q u hq => ?_⟩
        have : q < news.length := (List.getElem?_eq_some_iff.1 hq).1
        rw [hnl, show k = 0 by omega] at this
        simp at this
      · rw [if_neg hc]
        refine ⟨_, _, by rw [show H - L = k by omega]; rfl, fun q u hq => ?_⟩
        have := hr.rowCell hj0 (by rw [e1, e3]) _ _ (hget q u hq)
        simp only [add_add] at this ⊢
        rw [← this]
        congr 2
        omega
  have hr1 := hr.put (d := some t1) (s := .one (.c .dead)) (v := v1) hd1 trivial
  have hr2 := hr.put (d := some t1) (s := vv v1) (v := v1) hd1 rfl
  have ey : (a.put (some t1) v1).eval (.tmp t1) = v1 := by
    have := hr2.ev (.tmp t1)
    rw [show (c.put (some t1) (vv v1)).ev (.tmp t1) = vv v1 by simp [Cfg.put, Cfg.ev, Cfg.get]] at this
    exact this
  have ex := hr1.ev x0
  rw [hx0] at ex
  have ex : σ[i]? = some ((a.put (some t1) v1).eval x0) := ex
  have hi1 : (c.put (some t1) (.one (.c .dead))).loc[i]? = some (.row e sz n xs) := hi0
  obtain ⟨fp, hfp⟩ := hr1.locAt hi1
  have hd := hr1.loc i _ fp _ hi1 hfp ex
  unfold wpList
  rw [if_pos (by simp [Region.wanted])]
  left
  unfold Oper.wp
  rw [hrun1]
  show wpList X.P ops Q (_ :: rest) (a.put (some t1) v1) w
  generalize a.put (some t1) v1 = a1 at hr1 ey ex hd
  have key : ∃ v' w', (Builtin.append_ #[t, t] ty #[a1.eval x0, v1]).run X.P w = .ok v' w' ∧ w'.ownsRow 0 e sz v' (n + k) (xs ++ news) ∧ w.grownBy w' (a1.eval x0).ownBlock ∧ (∀ k, v'.ownBlock = some k → (a1.eval x0).ownBlock = some k ∨ w.heap.size ≤ k) := by
    rcases hv1 with ⟨rfl, hk0⟩ | ⟨ad, cap, rfl, hc⟩
    · subst hk0
      obtain rfl : news = [] := by simpa using hnl
      have := append_cases (P := X.P) w 0 t ty e ti z sz by_ hu hti hz hsz hby' hzs hs0 (a1.eval x0) n xs hd.1 ⟨0, 0, none⟩ 0 0 [] (by simp) (by simp) (by simp) h63 hby (Nat.zero_le _)
      have hrun : (Builtin.append_ #[t, t] ty #[a1.eval x0, .slice (some ⟨0, 0, none⟩) 0 0]).run X.P w = (Builtin.append_ #[t, t] ty #[a1.eval x0, .slice none 0 0]).run X.P w := by
        have hl : ∀ (ad : Addr), (loadCells ad 0).run X.P w = .ok #[] w := fun ad => by simpa using run_loadCells_list (P := X.P) w ad [] (by simp)
        rcases hd.1.2 with ⟨e4, hn0⟩ | ⟨g4, c4, u4, e4, _, _, hn4, _⟩
        · rw [e4]; simp [Builtin.append_, run_underlying hu, Builtin.lenOf, Builtin.firstCells, sizeOf, typeInfo, hti, hl, storeCells]
        · rw [e4]; simp [Builtin.append_, run_underlying hu, Builtin.lenOf, Builtin.firstCells, sizeOf, typeInfo, hti, hn4, hl, storeCells]
      rw [hrun] at this
      exact this
    · exact append_cases (P := X.P) w 0 t ty e ti z sz by_ hu hti hz hsz hby' hzs hs0 (a1.eval x0) n xs hd.1 ad k cap news hnl hc hone h63 hby (Nat.zero_le _)
  obtain ⟨v', w', hrun, hown, hgr, hkk⟩ := key
  obtain ⟨ρ', hR⟩ := hr1.reRow hi1 ex hgr hown hkk
  unfold wpList
  rw [if_pos (by simp [Region.wanted])]
  left
  unfold Oper.wp
  have hrun2 : (execOp a1.eval ⟨d, .call { callee := .builtin .append, args := #[x0, .tmp t1], argTypes := #[t, t] }, ty, pos, af, none⟩).run X.P w = .ok (.value v') w' := by
    simp only [execOp, resolve, invoke, builtin, Sem.run_bind, Sem.run_pure, Result.andThen_ok, List.map_toArray, List.map_cons, List.map_nil, ey]
    rw [hrun]; rfl
  rw [hrun2]
  have hs2 : DV (σ ++ [v']) (.one (.c (.row c.loc.length))) v' := by
    show (σ ++ [v'])[c.loc.length]? = some v'
    have := hr1.lenS
    rw [show c.loc.length = σ.length from this.symm]; simp
  exact hM _ hN.2 Q hQ _ _ _ _ (hR.put hN.1 hs2)
end
end Go.Sx
namespace Go.Proofs.YtbdacbcpniegiaaDoor.Q
open Go Go.RowKit Go.Proofs Go.Sx
end Go.Proofs.YtbdacbcpniegiaaDoor.Q
namespace Go.Proofs.YtbdacbcpniegiaaDoor
open Go Go.RowKit Go.Proofs Go.Sx
def sE (k : Nat) (f : NW.Fld) : S1 := .agg [.v (.int .i64 k), .v (.int .i64 f.kind), .v (.int .u64 f.n), .v (.string (B f.s))]
def mE (l : List (Nat × NW.Fld)) : List (Value × S1) := l.map fun p => (.int .i64 p.1, sE p.1 p.2)
def putN (k : Nat) (f : NW.Fld) : List (Nat × NW.Fld) → List (Nat × NW.Fld)
  | [] => [(k, f)]
  | p :: l => if k = p.1 then (k, f) :: l else p :: putN k f l
def findN (k : Nat) : List (Nat × NW.Fld) → Option NW.Fld
  | [] => none
  | p :: l => if k = p.1 then some p.2 else findN k l
theorem findN_put (k j : Nat) (f : NW.Fld) : ∀ l, findN j (putN k f l) = if j = k then some f else findN j l
  | [] => by simp only [putN, findN]
  | p :: l => by
    simp only [putN]
    by_cases h : k = p.1
    · rw [if_pos h]; simp only [findN]
      by_cases hj : j = k
      · simp [hj]
      · rw [if_neg hj, if_neg hj, if_neg (by omega)]
    · rw [if_neg h]; simp only [findN, findN_put k j f l]
      by_cases hj : j = p.1
      · rw [if_pos hj, if_neg (by omega), if_pos hj]
      · rw [if_neg hj]; by_cases hjk : j = k <;> simp [hjk]; intro h2; omega
theorem mE_all (l : List (Nat × NW.Fld)) : ((mE l).all fun p => KeyOf (.int .i64) p.1) = true := by
  induction l with
  | nil => rfl
  | cons p l ih => simp only [mE, List.map_cons, List.all_cons] at *; rw [ih]; rfl
theorem mE_okB (n : Nat) (l : List (Nat × NW.Fld)) : ((mE l).all fun p => S1.okB n p.2) = true := by
  induction l with
  | nil => rfl
  | cons p l ih => simp only [mE, List.map_cons, List.all_cons] at *; rw [ih]; rfl
theorem mE_ren (sel : List Nat) (l : List (Nat × NW.Fld)) : ((mE l).map fun p => (p.1, p.2.ren sel)) = mE l := by
  induction l with
  | nil => rfl
  | cons p l ih => simp only [mE, List.map_cons] at *; rw [ih]; rfl
theorem mE_put (k : Nat) (f : NW.Fld) : ∀ l, Put (.int .i64 k) (sE k f) (mE l) (mE (putN k f l))
  | [] => .nil
  | p :: l => by
    simp only [putN]
    by_cases h : k = p.1
    · rw [if_pos h]; exact .hit (by rw [h])
    · rw [if_neg h]; exact .miss (fun e => h (by injection e with _ e; exact Int.ofNat.inj e)) (mE_put k f l)
theorem lkS_mE (k : Nat) (N : Option S1 → Prop) : ∀ l, lkS (.int .i64 k) N (mE l) = N ((findN k l).map (sE k))
  | [] => rfl
  | p :: l => by
    show bif2 (keyEq (.int .i64 k) (.int .i64 p.1)) (N (some (sE p.1 p.2))) (lkS (.int .i64 k) N (mE l)) = _
    by_cases h : k = p.1
    · have : keyEq (.int .i64 (k : Int)) (.int .i64 (p.1 : Int)) = true := by rw [h]; simp [keyEq]
      rw [this]; simp only [findN, if_pos h, bif2]; subst h; simp
    · have : keyEq (.int .i64 (k : Int)) (.int .i64 (p.1 : Int)) = false := by simp [keyEq]; omega
      rw [this, lkS_mE k N l]; simp only [findN, if_neg h, bif2]; simp
end Go.Proofs.YtbdacbcpniegiaaDoor
namespace Go.Proofs.YtbdacbcpniegiaaDoor
open Go Go.RowKit Go.Proofs Go.Sx
end Go.Proofs.YtbdacbcpniegiaaDoor
namespace Go.Proofs.YtbdacbcpniegiaaDoor
open Go Go.RowKit Go.Proofs Go.Sx
def takeG {S : Type} (step : NW.Fld → S → Option S) : List NW.Fld → S → S × Bool
  | [], s => (s, true)
  | f :: fs, s => match step f s with | some s' => takeG step fs s' | none => (s, false)
theorem takeG_go {S : Type} {step : NW.Fld → S → Option S} {l : List NW.Fld} {s0 m m' : S} {i : Nat} (h : takeG step l s0 = takeG step (l.drop i) m) (hi : i < l.length) (hs : step (l.getD i default) m = some m') : takeG step l s0 = takeG step (l.drop (i + 1)) m' := by
  rw [h, drop_getD hi, takeG, hs]
theorem takeG_end {S : Type} {step : NW.Fld → S → Option S} {l : List NW.Fld} {s0 m : S} {i : Nat} (h : takeG step l s0 = takeG step (l.drop i) m) (hi : l.length ≤ i) : takeG step l s0 = (m, true) := by
  rw [h, List.drop_of_length_le hi, takeG]
theorem numBlk5 {X : Ctx} {code : Code} {c : Cfg} {K : Exit → Cfg → Prop} {id : Nat} (x : Nat) (h1 : (x : Int) = 1 → SX X code c (bx id K)) (h2 : (x : Int) = 2 → SX X code c (bx id K)) (h3 : (x : Int) = 3 → SX X code c (bx id K)) (h4 : (x : Int) = 4 → SX X code c (bx id K)) (h5 : (x : Int) = 5 → SX X code c (bx id K))
    (h0 : ((x : Int) == 1) = false ∧ ((x : Int) == 2) = false ∧ ((x : Int) == 3) = false ∧ ((x : Int) == 4) = false ∧ ((x : Int) == 5) = false → SX X code c (bx id K)) : SX X (.block id code) c K := by
  refine SX.block ?_
  by_cases e1 : (x : Int) = 1
  · exact h1 e1
  by_cases e2 : (x : Int) = 2
  · exact h2 e2
  by_cases e3 : (x : Int) = 3
  · exact h3 e3
  by_cases e4 : (x : Int) = 4
  · exact h4 e4
  by_cases e5 : (x : Int) = 5
  · exact h5 e5
  exact h0 ⟨by simpa using e1, by simpa using e2, by simpa using e3, by simpa using e4, by simpa using e5⟩
structure StS where
  kind : Nat
  name : List UInt8
  seq : Nat
  fine : Nat
  det : List UInt8
def StS.zero : StS := ⟨0, [], 0, 0, []⟩
end Go.Proofs.YtbdacbcpniegiaaDoor
namespace Go.Proofs.YtbdacbcpniegiaaDoor
open Go Go.RowKit Go.Proofs Go.Sx
abbrev LSt := Bool × List (Nat × NW.Fld)
def stepR (f : NW.Fld) (m : LSt) : Option LSt :=
  if f.num = 1 then some (m.1 && ((0 : Int) == (f.kind : Int)), putN 1 f m.2)
  else if f.num = 2 then some (m.1 && ((2 : Int) == (f.kind : Int)), putN 2 f m.2)
  else if f.num = 3 then some (m.1 && ((0 : Int) == (f.kind : Int)), putN 3 f m.2)
  else if f.num = 4 then some (m.1 && ((0 : Int) == (f.kind : Int)), putN 4 f m.2)
  else if f.num = 5 then some (m.1 && ((2 : Int) == (f.kind : Int)), putN 5 f m.2)
  else some m
@[reducible] def kindMap : LO := .map [(.int .i64 1, .c (.v (.int .i64 0))), (.int .i64 2, .c (.v (.int .i64 2))), (.int .i64 3, .c (.v (.int .i64 0))), (.int .i64 4, .c (.v (.int .i64 0))), (.int .i64 5, .c (.v (.int .i64 2)))]
@[reducible] def rs0 : LO := .cells [.v (.int .i64 0), .v (.string (B [])), .v (.int .u64 0), .v (.bool false), .v (.string (B []))] 89
theorem get_l2 {X : Ctx} (hP : X.P = Tryd.prog) (hnt : X.nt = 86) (hbl : X.base.length = 0) (l : List NW.Fld) (hll : l.length ≤ 1099511627776) (K : Exit → Cfg → Prop) :
    SX X (sub [true, true, true, true, false] (Tryd.f49.body.getD .skip)) ⟨[(2, .one (.c (.loc 0 0))), (3, vv (.bool false)), (4, .one (.c (.row 1))), (5, vv (.bool true)), (6, .one (.c (.row 2))), (7, .one (.c (.row 3)))], [rs0, frow l, kindMap, .map []]⟩
      (nx (fun c' => ∃ (j : Unit) (sel : List Nat), LeR X.base.length sel ⟨[(2, .one (.c (.loc 0 0))), (3, vv (.bool false)), (5, vv (.bool (takeG stepR l (true, [])).1.1)), (7, .one (.c (.row 1)))], [rs0, .map (mE (takeG stepR l (true, [])).1.2)]⟩ c') K) := by
  have hT := Ty.T49 hP
  simp only [sub, Tryd.f49, Option.getD_some]
  have hk1 := True.intro
  repeat' (first
    | (refine numBlk5 (id := 1) (l.getD i default).num (fun hk1 => ?_) (fun hk1 => ?_) (fun hk1 => ?_) (fun hk1 => ?_) (fun hk1 => ?_) (fun hk1 => ?_))
    | (refine SX.seqK ?_; intro N hN)
    | ((first | (refine SX.ops ?_) | (refine SX.planT (id := 12) [.q [(0, [7]), (1, [49]), (2, [50]), (3, [7]), (4, [52]), (5, [53]), (6, [51]), (7, [54])] none] ?_ ?_ ?_; (focus first | (rw [hP]; kernel_rfl) | (rw [hU1P, hP]; kernel_rfl)); (focus kernel_rfl))); simp only [GA, ↓GB, GX, simprocAttr, hnt, hT, hk1])
    | ((first | refine SX.skip ?_ | refine SX.exit ?_ | refine SX.label ?_ | refine SX.ret ?_); try simp only [GA, ↓GB, GX, simprocAttr])
    | (refine hN _ ?_; clear hN N)
    | (clear hN N; first | (refine hN _ ?_; clear hN N) | (clear hN N; refine hN _ ?_; clear hN N))
    | ((first | refine SX.cond rfl (fun hb => ?_) (fun hb => ?_) | (refine bif2.mk (fun hb => ?_) (fun hb => ?_) <;> (try simp only [hb, GA, ↓GB, GX, simprocAttr, hnt, hT, hk1]))) <;> ((first | cases hb | (simp only [HBs] at hb) | skip) <;> (first | (exfalso; omega) | skip)))
    | (show VO X _ _ _; refine VO.mapSet (kt := 3) (et := 143) (kd := .int .i64) (kv := .int .i64 1) (s := sE 1 (l.getD i default)) (es := mE es) (es' := mE (putN 1 (l.getD i default) es)) rfl rfl rfl rfl (by rw [hP]; kernel_rfl) (by rw [hP]; kernel_rfl) rfl (mE_all _) (mE_put 1 _ _) ?_; simp only [GA, ↓GB, GX, simprocAttr, hnt, hT])
    | (show VO X _ _ _; refine VO.mapSet (kt := 3) (et := 143) (kd := .int .i64) (kv := .int .i64 2) (s := sE 2 (l.getD i default)) (es := mE es) (es' := mE (putN 2 (l.getD i default) es)) rfl rfl rfl rfl (by rw [hP]; kernel_rfl) (by rw [hP]; kernel_rfl) rfl (mE_all _) (mE_put 2 _ _) ?_; simp only [GA, ↓GB, GX, simprocAttr, hnt, hT])
    | (show VO X _ _ _; refine VO.mapSet (kt := 3) (et := 143) (kd := .int .i64) (kv := .int .i64 3) (s := sE 3 (l.getD i default)) (es := mE es) (es' := mE (putN 3 (l.getD i default) es)) rfl rfl rfl rfl (by rw [hP]; kernel_rfl) (by rw [hP]; kernel_rfl) rfl (mE_all _) (mE_put 3 _ _) ?_; simp only [GA, ↓GB, GX, simprocAttr, hnt, hT])
    | (show VO X _ _ _; refine VO.mapSet (kt := 3) (et := 143) (kd := .int .i64) (kv := .int .i64 4) (s := sE 4 (l.getD i default)) (es := mE es) (es' := mE (putN 4 (l.getD i default) es)) rfl rfl rfl rfl (by rw [hP]; kernel_rfl) (by rw [hP]; kernel_rfl) rfl (mE_all _) (mE_put 4 _ _) ?_; simp only [GA, ↓GB, GX, simprocAttr, hnt, hT])
    | (show VO X _ _ _; refine VO.mapSet (kt := 3) (et := 143) (kd := .int .i64) (kv := .int .i64 5) (s := sE 5 (l.getD i default)) (es := mE es) (es' := mE (putN 5 (l.getD i default) es)) rfl rfl rfl rfl (by rw [hP]; kernel_rfl) (by rw [hP]; kernel_rfl) rfl (mE_all _) (mE_put 5 _ _) ?_; simp only [GA, ↓GB, GX, simprocAttr, hnt, hT])
    | (refine ⟨fcells (l.getD i default), rfl, flds_cell _ _ (by omega), ?_⟩ <;> simp only [fcells, GA, ↓GB, GX, simprocAttr, hnt, hT, hk1])
    | (refine SX.loop (ι := { p : Nat × LSt // p.1 ≤ l.length ∧ takeG stepR l (true, []) = takeG stepR (l.drop p.1) p.2 }) (fun p => ⟨[(2, .one (.c (.loc 0 0))), (3, vv (.bool false)), (5, vv (.bool p.1.2.1)), (6, .one (.c (.row 2))), (7, .one (.c (.row 3))), (23, .one (.c (.row 1))), (24, vv (.int .i64 l.length)), (25, vv (.int .i64 p.1.1))], [rs0, frow l, kindMap, .map (mE p.1.2.2)]⟩) (fun p => l.length - p.1.1) ⟨(0, (true, [])), Nat.zero_le _, rfl⟩ ⟨[0, 1, 2, 3], by (refine LeR.of ?_ ?_ ?_ ?_ ?_ ?_ ?_ <;> first | (rw [hbl]; decide) | decide | (simp only [GA, ↓GB, GX, simprocAttr, GDs]; done) | (simp only [GA, ↓GB, GX, simprocAttr, GDs]; first | exact mE_okB _ _ | (simp only [mE_ren]; done) | (refine ⟨rfl, ?_⟩; rw [wI64 (by omega) (by omega)]; rfl) | (rw [wI64 (by omega) (by omega)]; rfl) | rfl; done))⟩ ?_ <;> rintro ⟨⟨i, ⟨ok, es⟩⟩, hi, hm⟩ <;> simp only [] at hi hm ⊢)
    | (refine SX.block ?_)
    | (refine and_mk ?_ ?_; (focus first | decide | omega | rfl | assumption | (simp only [LBs]; omega) | (simp; done)))
    | (refine And.intro ?_ ?_))
  all_goals (try refine Done.mk ?_)
  · have hj : (l.getD i default).num = 1 := by omega
    exact ⟨⟨(i + 1, (true && ((0 : Int) == ((l.getD i default).kind : Int)), putN 1 (l.getD i default) es)), by show i + 1 ≤ l.length; omega, takeG_go hm (by omega) (by simp [-List.getD_eq_getElem?_getD, stepR, hj])⟩, [0, 1, 2, 3], by (refine LeR.of ?_ ?_ ?_ ?_ ?_ ?_ ?_ <;> first | (rw [hbl]; decide) | decide | (simp only [GA, ↓GB, GX, simprocAttr, GDs]; done) | (simp only [GA, ↓GB, GX, simprocAttr, GDs]; first | exact mE_okB _ _ | (simp only [mE_ren]; done) | (refine ⟨rfl, ?_⟩; rw [wI64 (by omega) (by omega)]; rfl) | (rw [wI64 (by omega) (by omega)]; rfl) | rfl; done)), by show l.length - (i + 1) < l.length - i; omega⟩
  · have hj : (l.getD i default).num = 1 := by omega
    exact ⟨⟨(i + 1, (false && ((0 : Int) == ((l.getD i default).kind : Int)), putN 1 (l.getD i default) es)), by show i + 1 ≤ l.length; omega, takeG_go hm (by omega) (by simp [-List.getD_eq_getElem?_getD, stepR, hj])⟩, [0, 1, 2, 3], by (refine LeR.of ?_ ?_ ?_ ?_ ?_ ?_ ?_ <;> first | (rw [hbl]; decide) | decide | (simp only [GA, ↓GB, GX, simprocAttr, GDs]; done) | (simp only [GA, ↓GB, GX, simprocAttr, GDs]; first | exact mE_okB _ _ | (simp only [mE_ren]; done) | (refine ⟨rfl, ?_⟩; rw [wI64 (by omega) (by omega)]; rfl) | (rw [wI64 (by omega) (by omega)]; rfl) | rfl; done)), by show l.length - (i + 1) < l.length - i; omega⟩
  · have hj : (l.getD i default).num = 2 := by omega
    exact ⟨⟨(i + 1, (true && ((2 : Int) == ((l.getD i default).kind : Int)), putN 2 (l.getD i default) es)), by show i + 1 ≤ l.length; omega, takeG_go hm (by omega) (by simp [-List.getD_eq_getElem?_getD, stepR, hj])⟩, [0, 1, 2, 3], by (refine LeR.of ?_ ?_ ?_ ?_ ?_ ?_ ?_ <;> first | (rw [hbl]; decide) | decide | (simp only [GA, ↓GB, GX, simprocAttr, GDs]; done) | (simp only [GA, ↓GB, GX, simprocAttr, GDs]; first | exact mE_okB _ _ | (simp only [mE_ren]; done) | (refine ⟨rfl, ?_⟩; rw [wI64 (by omega) (by omega)]; rfl) | (rw [wI64 (by omega) (by omega)]; rfl) | rfl; done)), by show l.length - (i + 1) < l.length - i; omega⟩
  · have hj : (l.getD i default).num = 2 := by omega
    exact ⟨⟨(i + 1, (false && ((2 : Int) == ((l.getD i default).kind : Int)), putN 2 (l.getD i default) es)), by show i + 1 ≤ l.length; omega, takeG_go hm (by omega) (by simp [-List.getD_eq_getElem?_getD, stepR, hj])⟩, [0, 1, 2, 3], by (refine LeR.of ?_ ?_ ?_ ?_ ?_ ?_ ?_ <;> first | (rw [hbl]; decide) | decide | (simp only [GA, ↓GB, GX, simprocAttr, GDs]; done) | (simp only [GA, ↓GB, GX, simprocAttr, GDs]; first | exact mE_okB _ _ | (simp only [mE_ren]; done) | (refine ⟨rfl, ?_⟩; rw [wI64 (by omega) (by omega)]; rfl) | (rw [wI64 (by omega) (by omega)]; rfl) | rfl; done)), by show l.length - (i + 1) < l.length - i; omega⟩
  · have hj : (l.getD i default).num = 3 := by omega
    exact ⟨⟨(i + 1, (true && ((0 : Int) == ((l.getD i default).kind : Int)), putN 3 (l.getD i default) es)), by show i + 1 ≤ l.length; omega, takeG_go hm (by omega) (by simp [-List.getD_eq_getElem?_getD, stepR, hj])⟩, [0, 1, 2, 3], by (refine LeR.of ?_ ?_ ?_ ?_ ?_ ?_ ?_ <;> first | (rw [hbl]; decide) | decide | (simp only [GA, ↓GB, GX, simprocAttr, GDs]; done) | (simp only [GA, ↓GB, GX, simprocAttr, GDs]; first | exact mE_okB _ _ | (simp only [mE_ren]; done) | (refine ⟨rfl, ?_⟩; rw [wI64 (by omega) (by omega)]; rfl) | (rw [wI64 (by omega) (by omega)]; rfl) | rfl; done)), by show l.length - (i + 1) < l.length - i; omega⟩
  · have hj : (l.getD i default).num = 3 := by omega
    exact ⟨⟨(i + 1, (false && ((0 : Int) == ((l.getD i default).kind : Int)), putN 3 (l.getD i default) es)), by show i + 1 ≤ l.length; omega, takeG_go hm (by omega) (by simp [-List.getD_eq_getElem?_getD, stepR, hj])⟩, [0, 1, 2, 3], by (refine LeR.of ?_ ?_ ?_ ?_ ?_ ?_ ?_ <;> first | (rw [hbl]; decide) | decide | (simp only [GA, ↓GB, GX, simprocAttr, GDs]; done) | (simp only [GA, ↓GB, GX, simprocAttr, GDs]; first | exact mE_okB _ _ | (simp only [mE_ren]; done) | (refine ⟨rfl, ?_⟩; rw [wI64 (by omega) (by omega)]; rfl) | (rw [wI64 (by omega) (by omega)]; rfl) | rfl; done)), by show l.length - (i + 1) < l.length - i; omega⟩
  · have hj : (l.getD i default).num = 4 := by omega
    exact ⟨⟨(i + 1, (true && ((0 : Int) == ((l.getD i default).kind : Int)), putN 4 (l.getD i default) es)), by show i + 1 ≤ l.length; omega, takeG_go hm (by omega) (by simp [-List.getD_eq_getElem?_getD, stepR, hj])⟩, [0, 1, 2, 3], by (refine LeR.of ?_ ?_ ?_ ?_ ?_ ?_ ?_ <;> first | (rw [hbl]; decide) | decide | (simp only [GA, ↓GB, GX, simprocAttr, GDs]; done) | (simp only [GA, ↓GB, GX, simprocAttr, GDs]; first | exact mE_okB _ _ | (simp only [mE_ren]; done) | (refine ⟨rfl, ?_⟩; rw [wI64 (by omega) (by omega)]; rfl) | (rw [wI64 (by omega) (by omega)]; rfl) | rfl; done)), by show l.length - (i + 1) < l.length - i; omega⟩
  · have hj : (l.getD i default).num = 4 := by omega
    exact ⟨⟨(i + 1, (false && ((0 : Int) == ((l.getD i default).kind : Int)), putN 4 (l.getD i default) es)), by show i + 1 ≤ l.length; omega, takeG_go hm (by omega) (by simp [-List.getD_eq_getElem?_getD, stepR, hj])⟩, [0, 1, 2, 3], by (refine LeR.of ?_ ?_ ?_ ?_ ?_ ?_ ?_ <;> first | (rw [hbl]; decide) | decide | (simp only [GA, ↓GB, GX, simprocAttr, GDs]; done) | (simp only [GA, ↓GB, GX, simprocAttr, GDs]; first | exact mE_okB _ _ | (simp only [mE_ren]; done) | (refine ⟨rfl, ?_⟩; rw [wI64 (by omega) (by omega)]; rfl) | (rw [wI64 (by omega) (by omega)]; rfl) | rfl; done)), by show l.length - (i + 1) < l.length - i; omega⟩
  · have hj : (l.getD i default).num = 5 := by omega
    exact ⟨⟨(i + 1, (true && ((2 : Int) == ((l.getD i default).kind : Int)), putN 5 (l.getD i default) es)), by show i + 1 ≤ l.length; omega, takeG_go hm (by omega) (by simp [-List.getD_eq_getElem?_getD, stepR, hj])⟩, [0, 1, 2, 3], by (refine LeR.of ?_ ?_ ?_ ?_ ?_ ?_ ?_ <;> first | (rw [hbl]; decide) | decide | (simp only [GA, ↓GB, GX, simprocAttr, GDs]; done) | (simp only [GA, ↓GB, GX, simprocAttr, GDs]; first | exact mE_okB _ _ | (simp only [mE_ren]; done) | (refine ⟨rfl, ?_⟩; rw [wI64 (by omega) (by omega)]; rfl) | (rw [wI64 (by omega) (by omega)]; rfl) | rfl; done)), by show l.length - (i + 1) < l.length - i; omega⟩
  · have hj : (l.getD i default).num = 5 := by omega
    exact ⟨⟨(i + 1, (false && ((2 : Int) == ((l.getD i default).kind : Int)), putN 5 (l.getD i default) es)), by show i + 1 ≤ l.length; omega, takeG_go hm (by omega) (by simp [-List.getD_eq_getElem?_getD, stepR, hj])⟩, [0, 1, 2, 3], by (refine LeR.of ?_ ?_ ?_ ?_ ?_ ?_ ?_ <;> first | (rw [hbl]; decide) | decide | (simp only [GA, ↓GB, GX, simprocAttr, GDs]; done) | (simp only [GA, ↓GB, GX, simprocAttr, GDs]; first | exact mE_okB _ _ | (simp only [mE_ren]; done) | (refine ⟨rfl, ?_⟩; rw [wI64 (by omega) (by omega)]; rfl) | (rw [wI64 (by omega) (by omega)]; rfl) | rfl; done)), by show l.length - (i + 1) < l.length - i; omega⟩
  · obtain ⟨g1, g2, g3, g4, g5⟩ := hk1
    have k1 : ¬ (l.getD i default).num = 1 := fun h => by rw [h] at g1; cases g1
    have k2 : ¬ (l.getD i default).num = 2 := fun h => by rw [h] at g2; cases g2
    have k3 : ¬ (l.getD i default).num = 3 := fun h => by rw [h] at g3; cases g3
    have k4 : ¬ (l.getD i default).num = 4 := fun h => by rw [h] at g4; cases g4
    have k5 : ¬ (l.getD i default).num = 5 := fun h => by rw [h] at g5; cases g5
    exact ⟨⟨(i + 1, (ok, es)), by show i + 1 ≤ l.length; omega, takeG_go hm (by omega) (by simp [-List.getD_eq_getElem?_getD, stepR, k1, k2, k3, k4, k5])⟩, [0, 1, 2, 3], by (refine LeR.of ?_ ?_ ?_ ?_ ?_ ?_ ?_ <;> first | (rw [hbl]; decide) | decide | (simp only [GA, ↓GB, GX, simprocAttr, GDs]; done) | (simp only [GA, ↓GB, GX, simprocAttr, GDs]; first | exact mE_okB _ _ | (simp only [mE_ren]; done) | (refine ⟨rfl, ?_⟩; rw [wI64 (by omega) (by omega)]; rfl) | (rw [wI64 (by omega) (by omega)]; rfl) | rfl; done)), by show l.length - (i + 1) < l.length - i; omega⟩
  · rw [takeG_end hm (by omega)]
    exact ⟨(), [0, 3], by (refine LeR.of ?_ ?_ ?_ ?_ ?_ ?_ ?_ <;> first | (rw [hbl]; decide) | decide | (simp only [GA, ↓GB, GX, simprocAttr, GDs]; done) | (simp only [GA, ↓GB, GX, simprocAttr, GDs]; first | exact mE_okB _ _ | (simp only [mE_ren]; done) | (refine ⟨rfl, ?_⟩; rw [wI64 (by omega) (by omega)]; rfl) | (rw [wI64 (by omega) (by omega)]; rfl) | rfl; done))⟩
end Go.Proofs.YtbdacbcpniegiaaDoor
namespace Go.Proofs.YtbdacbcpniegiaaDoor
open Go Go.RowKit Go.Proofs Go.Sx
theorem parse_all_aux (G : Nat → NW.Fld → Prop) (hG : ∀ (p : List UInt8) f r, NW.takeF p = some (f, r) → G p.length f) (hm : ∀ a b f, a ≤ b → G a f → G b f) : ∀ (n : Nat) (s : List UInt8) (l : List NW.Fld), s.length ≤ n → NW.parse s = some l → ∀ f ∈ l, G s.length f
  | n, [], l, _, h => by rw [NW.parse_nil] at h; cases h; intro f hf; simp at hf
  | 0, b :: s, l, hn, h => by simp at hn
  | n + 1, b :: s, l, hn, h => by
    cases ht : NW.takeF (b :: s) with
    | none => rw [NW.parse_none (by simp) ht] at h; cases h
    | some fr =>
      obtain ⟨f, r⟩ := fr
      have hl := NW.takeF_len ht
      rw [NW.parse_some ht] at h
      cases hr : NW.parse r with
      | none => rw [hr] at h; cases h
      | some l' =>
        rw [hr] at h; cases h
        have ih := parse_all_aux G hG hm n r l' (by simp only [List.length_cons] at hl hn; omega) hr
        intro g hg
        rcases List.mem_cons.1 hg with rfl | hg
        · exact hG _ _ _ ht
        · exact hm _ _ _ (Nat.le_of_lt hl) (ih g hg)
theorem parse_slen {s : List UInt8} {l : List NW.Fld} (h : NW.parse s = some l) : ∀ f ∈ l, f.s.length ≤ s.length :=
  parse_all_aux (fun n f => f.s.length ≤ n) (fun p f r h => takeF_slen h) (fun a b f hab h => Nat.le_trans h hab) _ s l (Nat.le_refl _) h
theorem takeG_inv {S : Type} {step : NW.Fld → S → Option S} (G : S → Prop) : ∀ (l : List NW.Fld) (m : S), G m → (∀ f ∈ l, ∀ m m', G m → step f m = some m' → G m') → G (takeG step l m).1
  | [], m, h, _ => h
  | f :: l, m, h, hs => by
    rw [takeG]
    cases hf : step f m with
    | none => exact h
    | some m' => exact takeG_inv G l m' (hs f (by simp) m m' h hf) (fun g hg => hs g (by simp [hg]))
end Go.Proofs.YtbdacbcpniegiaaDoor
namespace Go.Proofs.YtbdacbcpniegiaaDoor
open Go Go.RowKit Go.Proofs Go.Sx
def nilF : NW.Fld := ⟨0, 0, 0, []⟩
def lastN (k : Nat) (es : List (Nat × NW.Fld)) : NW.Fld := (findN k es).getD nilF
theorem getD_last (k : Nat) (es : List (Nat × NW.Fld)) : Option.getD (Option.map (sE k) (findN k es)) (.agg [.v (.int .i64 0), .v (.int .i64 0), .v (.int .u64 0), .v (.string (B []))])
    = .agg [.v (.int .i64 (if (findN k es).isSome then k else 0)), .v (.int .i64 (lastN k es).kind), .v (.int .u64 (lastN k es).n), .v (.string (B (lastN k es).s))] := by
  cases h : findN k es <;> simp [lastN, h, sE, nilF] <;> rfl
def rsOf (es : List (Nat × NW.Fld)) : Rs := ⟨(lastN 1 es).n, (lastN 2 es).s, (lastN 3 es).n, (((lastN 4 es).n : Int) == 1), (lastN 5 es).s⟩
def resG (m : LSt) : Option Rs := if m.1 = true ∧ (lastN 1 m.2).n ≤ 5 ∧ (lastN 4 m.2).n ≤ 1 ∧ rightB (rsOf m.2) = true then some (rsOf m.2) else none
def resR (s : List UInt8) : Option Rs := match NW.parse s with
  | none => none
  | some l => resG (takeG stepR l (true, [])).1
def resV : Option Rs → SV
  | some r => .tup [.agg [.v (.int .i64 r.t), .v (.string (B r.s)), .v (.int .u64 r.q), .v (.bool r.g), .v (.string (B r.b))], .c (.v (.bool true))]
  | none => .tup [.agg [.v (.int .i64 0), .v (.string (B [])), .v (.int .u64 0), .v (.bool false), .v (.string (B []))], .c (.v (.bool false))]
theorem findN_step {n : Nat} {f : NW.Fld} (hf : f.s.length ≤ n) {m m' : LSt} (h : ∀ k g, findN k m.2 = some g → g.s.length ≤ n) (hs : stepR f m = some m') : ∀ k g, findN k m'.2 = some g → g.s.length ≤ n := by
  have key : ∀ j k g, findN k (putN j f m.2) = some g → g.s.length ≤ n := fun j k g hg => by
    rw [findN_put] at hg
    split at hg
    · cases hg; exact hf
    · exact h k g hg
  unfold stepR at hs
  repeat' split at hs
  all_goals (cases hs; first | exact key _ | exact h)
theorem lastN_len {s : List UInt8} {l : List NW.Fld} (hp : NW.parse s = some l) (k : Nat) : (lastN k (takeG stepR l (true, [])).1.2).s.length ≤ s.length := by
  have := takeG_inv (step := stepR) (fun m => ∀ k g, findN k m.2 = some g → g.s.length ≤ s.length) l (true, []) (fun k g h => by simp [findN] at h) fun f hf m m' h1 h2 => findN_step (parse_slen hp f hf) h1 h2
  unfold lastN
  cases h : findN k (takeG stepR l (true, [])).1.2 with
  | none => simp [nilF]
  | some g => exact this k g h
theorem getRes_none {e : EA} (he : e.Ok) (s : List UInt8) (hs : s.length ≤ 1099511627776) (hl : NW.parse s = none) : Ctr Tryd.prog (GW e) 49 [] [vv (.string (B s))] (fun os v => os = [] ∧ v = resV none) := by
  have hp : Ctr Tryd.prog (GW e) 109 [] [vv (.string (B s))] (fun os v => os = [] ∧ v = .tup [.c (.v (.slice none 0 0)), .c (.v (.bool false))]) := by
    have := parse_ctrW he s hs
    rw [hl] at this
    exact this
  refine Ctr.less ?_
  intro X0 hP0 hG0 N0 hN0
  refine CallVC.inline (f := 49) (by rw [hP0]; exact Tryd.func49) rfl Tryd.ntmps49 rfl (by simp) ?_
  intro X K hU hnt hbl hK
  have hP : X.P = Tryd.prog := hU.P.trans hP0
  have hG := hG0.under hU
  have hT := Ty.T49 hP
  simp only [GA, ↓GB, GX, simprocAttr] at hbl ⊢
  have gl : ∀ k N, lkS (.int .i64 k) N [] = N none := fun _ _ => rfl
  repeat' (first
    | (refine SX.seqK ?_; intro N hN)
    | ((first | (refine SX.ops ?_) | (refine SX.planT (id := 12) [.q [(0, [7]), (1, [49]), (2, [50]), (3, [7]), (4, [52]), (5, [53]), (6, [51]), (7, [54])] none] ?_ ?_ ?_; (focus first | (rw [hP]; kernel_rfl) | (rw [hU1P, hP]; kernel_rfl)); (focus kernel_rfl))); simp only [GA, ↓GB, GX, simprocAttr, hnt, hT, gl])
    | ((first | refine SX.skip ?_ | refine SX.exit ?_ | refine SX.label ?_ | refine SX.ret ?_); try simp only [GA, ↓GB, GX, simprocAttr])
    | (refine hN _ ?_; clear hN N)
    | ((first | refine hK _ _ (FinI.ret3 ?_) | refine hK _ _ (FinI.nrm3 ?_)); simp only [GA, ↓GB, GX, simprocAttr, finP_s, hnt, hT, gl]; refine Done.out ?_)
    | (clear hN N; first | (refine hN _ ?_; clear hN N) | (clear hN N; refine hN _ ?_; clear hN N))
    | ((first | refine SX.cond rfl (fun hb => ?_) (fun hb => ?_) | (refine bif2.mk (fun hb => ?_) (fun hb => ?_) <;> (try simp only [hb, GA, ↓GB, GX, simprocAttr, hnt, hT, gl]))) <;> ((first | cases hb | (simp only [HBs] at hb) | skip) <;> (first | (exfalso; omega) | skip)))
    | ((first | (refine Ctr.use (hp) hP hG [] ?_ rfl rfl ?_; (focus (refine LeR.of rfl trivial ?_ ?_ ?_ ?_ ?_ <;> first | decide | (simp only [GA, ↓GB, GX, simprocAttr, GDs]; done))); intro os' s hR; obtain ⟨rfl, rfl⟩ := hR)); simp only [GA, ↓GB, GX, simprocAttr, hnt, hT, gl])
    | (refine SX.loop (ι := Unit) (fun _ => ⟨[(2, .one (.c (.loc 0 0))), (3, vv (.bool false)), (5, vv (.bool false)), (7, .one (.c (.row 1))), (24, vv (.int .i64 0)), (25, vv (.int .i64 0))], [rs0, .map []]⟩) (fun _ => 0) () ⟨[0, 2], by (refine LeR.of ?_ ?_ ?_ ?_ ?_ ?_ ?_ <;> first | (rw [hbl]; decide) | decide | (simp only [GA, ↓GB, GX, simprocAttr, GDs]; done) | (simp only [GA, ↓GB, GX, simprocAttr, GDs]; rfl; done))⟩ ?_ <;> intro u)
    | (refine SX.block ?_)
    | (refine and_mk ?_ ?_; (focus first | decide | omega | rfl | assumption | (simp only [LBs]; omega) | (simp; done)))
    | (refine And.intro ?_ ?_))
  all_goals (try refine Done.mk ?_)
  all_goals ((refine hN0 _ _ ⟨[], _, _, ?_, ?_, ?_, ⟨rfl, rfl⟩⟩; (focus exact LeR.of rfl trivial (by simp only [GA, ↓GB, GX, simprocAttr, GDs]) (by decide) rfl rfl rfl); rotate_left; (focus rfl)); rfl)
end Go.Proofs.YtbdacbcpniegiaaDoor
