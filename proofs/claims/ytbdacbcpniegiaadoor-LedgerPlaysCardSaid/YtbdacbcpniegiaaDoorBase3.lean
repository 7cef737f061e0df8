/- Own work: a part of the symbolic executor and of the walks of the functions that the claim reaches. -/
import Derived.Test.YtbdacbcpniegiaaDoorBase2
import Derived.Shelf.Strings.SlTrimAscii
set_option linter.unusedVariables false
namespace NW
abbrev Bytes := List UInt8
def varint (n : Nat) : Bytes :=
  if h : n < 128 then [UInt8.ofNat n] else UInt8.ofNat (n % 128 + 128) :: varint (n / 128)
termination_by n
decreasing_by omega
def readAt : Nat → Bytes → Option (Nat × Nat)
  | _, [] => none
  | k, b :: t =>
    if k ≥ 10 then none
    else if k = 9 ∧ b.toNat > 1 then none
    else if b.toNat < 128 then some (b.toNat * 2 ^ (7 * k), k + 1)
    else (readAt (k + 1) t).map fun r => (b.toNat % 128 * 2 ^ (7 * k) + r.1, r.2)
def readVar (s : Bytes) : Option (Nat × Nat) := readAt 0 s
structure Fld where
  num : Nat
  kind : Nat
  n : Nat
  s : Bytes
deriving DecidableEq
def body (kind : Nat) (s : Bytes) : Option (Nat × Nat × Bytes) :=
  if kind = 0 then (readVar s).map fun r => (r.1, 0, s.drop r.2)
  else if kind = 1 then some (0, 8, s)
  else if kind = 2 then (readVar s).map fun r => (0, r.1, s.drop r.2)
  else if kind = 5 then some (0, 4, s)
  else none
def takeF (s : Bytes) : Option (Fld × Bytes) :=
  match readVar s with
  | none => none
  | some (tag, z) =>
    if tag < 8 ∨ 2 ^ 32 ≤ tag then none
    else match body (tag % 8) (s.drop z) with
      | none => none
      | some (n, size, r) => if size ≤ r.length then some (⟨tag / 8, tag % 8, n, r.take size⟩, r.drop size) else none
theorem readAt_bd (s : Bytes) : ∀ k r, readAt k s = some r → k < r.2 ∧ r.2 ≤ k + s.length ∧ r.2 ≤ 10 := by
  induction s with
  | nil => intro k r h; simp [readAt] at h
  | cons b t ih =>
    intro k r h
    simp only [readAt] at h
    split at h
    · simp at h
    · split at h
      · simp at h
      · split at h
        · simp at h; subst h; simp; omega
        · cases hr : readAt (k + 1) t with
          | none => simp [hr] at h
          | some q =>
            simp [hr] at h; subst h
            have := ih _ _ hr
            simp; omega
theorem readVar_bd {s : Bytes} {r} (h : readVar s = some r) : 1 ≤ r.2 ∧ r.2 ≤ s.length ∧ r.2 ≤ 10 := by
  have := readAt_bd s 0 r h
  omega
theorem readAt_lt (s : Bytes) : ∀ k r, k ≤ 10 → readAt k s = some r → r.1 + 2 ^ (7 * k) ≤ 2 ^ 64 + 0 ∨ r.1 < 2 ^ 64 ∧ 2 ^ (7 * k) ∣ r.1 := by
  induction s with
  | nil => intro k r _ h; simp [readAt] at h
  | cons b t ih =>
    intro k r hk h
    simp only [readAt] at h
    split at h
    · simp at h
    · rename_i h10
      split at h
      · simp at h
      · rename_i h9
        have hb := b.toNat_lt
        split at h
        · rename_i hlt
          simp at h; subst h
          right
          refine ⟨?_, Nat.dvd_mul_left _ _⟩
          simp only
          by_cases e : k = 9
          · subst e
            have : b.toNat ≤ 1 := by omega
            calc b.toNat * 2 ^ 63 ≤ 1 * 2 ^ 63 := Nat.mul_le_mul_right _ this
              _ < 2 ^ 64 := by decide
          · have h1 : 7 * k ≤ 56 := by omega
            have h2 : 2 ^ (7 * k) ≤ 2 ^ 56 := Nat.pow_le_pow_right (by decide) h1
            calc b.toNat * 2 ^ (7 * k) ≤ 128 * 2 ^ 56 := Nat.mul_le_mul (by omega) h2
              _ < 2 ^ 64 := by decide
        · cases hr : readAt (k + 1) t with
          | none => simp [hr] at h
          | some q =>
            simp [hr] at h; subst h
            have hk9 : k ≠ 9 := by
              intro e; apply h9; subst e; omega
            have h8 : k ≤ 8 := by omega
            have hpow : 2 ^ (7 * (k + 1)) = 128 * 2 ^ (7 * k) := by
              rw [show 7 * (k + 1) = 7 * k + 7 by omega, Nat.pow_add]; omega
            have := ih _ _ (by omega) hr
            rcases this with this | ⟨h1, h2⟩
            · left
              simp only
              rw [hpow] at this
              have h3 : b.toNat % 128 * 2 ^ (7 * k) + 2 ^ (7 * k) ≤ 128 * 2 ^ (7 * k) := by
                rw [← Nat.succ_mul]; exact Nat.mul_le_mul_right _ (by omega)
              omega
            · left
              simp only
              rw [hpow] at h2
              obtain ⟨c, hc⟩ := h2
              have h3 : b.toNat % 128 * 2 ^ (7 * k) + 2 ^ (7 * k) ≤ 128 * 2 ^ (7 * k) := by
                rw [← Nat.succ_mul]; exact Nat.mul_le_mul_right _ (by omega)
              have h64 : ∃ e, 2 ^ 64 = 2 ^ (7 * (k + 1)) * e := ⟨2 ^ (64 - 7 * (k + 1)), by rw [← Nat.pow_add]; congr 1; omega⟩
              obtain ⟨e, he⟩ := h64
              rw [hpow] at he
              rw [he] at h1
              have hce : c < e := by
                rw [hc] at h1
                exact Nat.lt_of_mul_lt_mul_left h1
              have h5 : 128 * 2 ^ (7 * k) * (c + 1) ≤ 128 * 2 ^ (7 * k) * e := Nat.mul_le_mul_left _ (by omega)
              rw [Nat.mul_add] at h5
              rw [hc, he]
              omega
theorem readVar_lt {s : Bytes} {r} (h : readVar s = some r) : r.1 < 2 ^ 64 := by
  rcases readAt_lt s 0 r (by omega) h with h | h
  · simp at h; omega
  · exact h.1
theorem readAt_append (p q : Bytes) : ∀ k r, readAt k p = some r → readAt k (p ++ q) = some r := by
  induction p with
  | nil => intro k r h; simp [readAt] at h
  | cons b t ih =>
    intro k r h
    simp only [readAt, List.cons_append] at h ⊢
    split
    · rename_i h1; rw [if_pos h1] at h; simp at h
    · rename_i h1; rw [if_neg h1] at h
      split
      · rename_i h2; rw [if_pos h2] at h; simp at h
      · rename_i h2; rw [if_neg h2] at h
        split
        · rename_i h3; rw [if_pos h3] at h; exact h
        · rename_i h3; rw [if_neg h3] at h
          cases hr : readAt (k + 1) t with
          | none => simp [hr] at h
          | some x => rw [hr] at h; rw [ih _ _ hr]; exact h
theorem readVar_append {p q : Bytes} {r} (h : readVar p = some r) : readVar (p ++ q) = some r := readAt_append p q 0 r h
theorem body_append {k : Nat} {p q : Bytes} {n z r} (h : body k p = some (n, z, r)) : body k (p ++ q) = some (n, z, r ++ q) := by
  simp only [body] at h ⊢
  split at h
  · rename_i h0; rw [if_pos h0]
    cases hr : readVar p with
    | none => simp [hr] at h
    | some x =>
      rw [readVar_append hr]
      simp [hr] at h ⊢
      obtain ⟨rfl, rfl, rfl⟩ := h
      have := readVar_bd hr
      exact ⟨rfl, rfl, by rw [List.drop_append_of_le_length (by omega)]⟩
  · rename_i h0; rw [if_neg h0]
    split at h
    · rename_i h1; rw [if_pos h1]; simp at h ⊢; obtain ⟨rfl, rfl, rfl⟩ := h; exact ⟨rfl, rfl, rfl⟩
    · rename_i h1; rw [if_neg h1]
      split at h
      · rename_i h2; rw [if_pos h2]
        cases hr : readVar p with
        | none => simp [hr] at h
        | some x =>
          rw [readVar_append hr]
          simp [hr] at h ⊢
          obtain ⟨rfl, rfl, rfl⟩ := h
          have := readVar_bd hr
          exact ⟨rfl, rfl, by rw [List.drop_append_of_le_length (by omega)]⟩
      · rename_i h2; rw [if_neg h2]
        split at h
        · rename_i h3; rw [if_pos h3]; simp at h ⊢; obtain ⟨rfl, rfl, rfl⟩ := h; exact ⟨rfl, rfl, rfl⟩
        · simp at h
theorem body_len {k : Nat} {p : Bytes} {n z r} (h : body k p = some (n, z, r)) : r.length ≤ p.length := by
  simp only [body] at h
  split at h
  · cases hr : readVar p with
    | none => simp [hr] at h
    | some x => simp [hr] at h; obtain ⟨_, _, rfl⟩ := h; simp
  · split at h
    · simp at h; obtain ⟨_, _, rfl⟩ := h; simp
    · split at h
      · cases hr : readVar p with
        | none => simp [hr] at h
        | some x => simp [hr] at h; obtain ⟨_, _, rfl⟩ := h; simp
      · split at h
        · simp at h; obtain ⟨_, _, rfl⟩ := h; simp
        · simp at h
theorem takeF_append {p q : Bytes} {f r} (h : takeF p = some (f, r)) : takeF (p ++ q) = some (f, r ++ q) := by
  simp only [takeF] at h ⊢
  cases hr : readVar p with
  | none => simp [hr] at h
  | some x =>
    obtain ⟨tag, z⟩ := x
    rw [readVar_append hr]
    simp only [hr] at h ⊢
    split at h
    · simp at h
    · rename_i ht
      rw [if_neg ht]
      have hz := (readVar_bd hr).2.1
      rw [List.drop_append_of_le_length (by simpa using hz)]
      cases hb : body (tag % 8) (p.drop z) with
      | none => simp [hb] at h
      | some y =>
        obtain ⟨n, size, s1⟩ := y
        rw [body_append hb]
        simp only [hb] at h ⊢
        split at h
        · rename_i hs
          rw [if_pos (by simp; omega)]
          simp at h ⊢
          obtain ⟨rfl, rfl⟩ := h
          rw [List.take_append_of_le_length hs, List.drop_append_of_le_length hs]
          exact ⟨rfl, rfl⟩
        · simp at h
theorem takeF_len {p : Bytes} {f r} (h : takeF p = some (f, r)) : r.length < p.length := by
  simp only [takeF] at h
  cases hr : readVar p with
  | none => simp [hr] at h
  | some x =>
    obtain ⟨tag, z⟩ := x
    simp only [hr] at h
    have hz := readVar_bd hr
    simp only at hz
    split at h
    · simp at h
    · cases hb : body (tag % 8) (p.drop z) with
      | none => simp [hb] at h
      | some y =>
        obtain ⟨n, size, s1⟩ := y
        simp only [hb] at h
        have := body_len hb
        simp only [List.length_drop] at this
        split at h
        · simp at h; obtain ⟨_, rfl⟩ := h; simp; omega
        · simp at h
def parse (s : Bytes) : Option (List Fld) :=
  if s = [] then some []
  else match h : takeF s with
    | none => none
    | some (f, r) => (parse r).map (f :: ·)
termination_by s.length
decreasing_by exact takeF_len h
theorem parse_nil : parse [] = some [] := by rw [parse]; simp
theorem parse_none {s : Bytes} (hs : s ≠ []) (h : takeF s = none) : parse s = none := by
  rw [parse, if_neg hs]; split <;> simp_all
theorem parse_some {s : Bytes} {f r} (h : takeF s = some (f, r)) : parse s = (parse r).map (f :: ·) := by
  have hs : s ≠ [] := by intro e; have := takeF_len h; simp [e] at this
  rw [parse, if_neg hs]; split <;> simp_all
theorem parse_append : ∀ (n : Nat) (p q : Bytes) (gs : List Fld), p.length ≤ n → parse p = some gs → parse (p ++ q) = (parse q).map (gs ++ ·) := by
  intro n
  induction n with
  | zero =>
    intro p q gs hp h
    have : p = [] := by simpa using hp
    subst this
    rw [parse_nil] at h
    simp at h; subst h; simp
  | succ n ih =>
    intro p q gs hp h
    by_cases e : p = []
    · subst e
      rw [parse_nil] at h
      simp at h; subst h; simp
    · cases ht : takeF p with
      | none => rw [parse_none e ht] at h; simp at h
      | some x =>
        obtain ⟨f, r⟩ := x
        rw [parse_some ht] at h
        cases hr : parse r with
        | none => simp [hr] at h
        | some g =>
          simp [hr] at h; subst h
          rw [parse_some (takeF_append ht), ih r q g (by have := takeF_len ht; omega) hr]
          cases parse q <;> simp
theorem parse_app {p q : Bytes} {gs : List Fld} (h : parse p = some gs) : parse (p ++ q) = (parse q).map (gs ++ ·) := parse_append _ p q gs (Nat.le_refl _) h
theorem varint_lt {n : Nat} (h : n < 128) : varint n = [UInt8.ofNat n] := by rw [varint]; simp [h]
theorem varint_ge {n : Nat} (h : ¬ n < 128) : varint n = UInt8.ofNat (n % 128 + 128) :: varint (n / 128) := by rw [varint]; simp [h]
theorem readAt_varint (t : Bytes) : ∀ (d n k : Nat), n < 2 ^ d → k < 10 → d + 7 * k = 64 → readAt k (varint n ++ t) = some (n * 2 ^ (7 * k), k + (varint n).length) := by
  intro d
  induction d using Nat.strongRecOn with
  | _ d ih =>
    intro n k hn hk hd
    by_cases h : n < 128
    · rw [varint_lt h]
      simp only [List.cons_append, List.nil_append, readAt, List.length_cons, List.length_nil]
      have hb : (UInt8.ofNat n).toNat = n := by simp [UInt8.toNat_ofNat']; omega
      rw [if_neg (by omega), if_neg (by
        rw [hb]; intro ⟨e, h1⟩; subst e
        have : d = 1 := by omega
        subst this; omega), hb, if_pos h]
    · rw [varint_ge h]
      simp only [List.cons_append, readAt, List.length_cons]
      have hb : (UInt8.ofNat (n % 128 + 128)).toNat = n % 128 + 128 := by simp [UInt8.toNat_ofNat']; omega
      have hd7 : 8 ≤ d := by
        rcases Nat.lt_or_ge d 8 with h8 | h8
        · have : 2 ^ d ≤ 2 ^ 7 := Nat.pow_le_pow_right (by decide) (by omega)
          omega
        · exact h8
      have hn' : n / 128 < 2 ^ (d - 7) := by
        apply Nat.div_lt_of_lt_mul
        calc n < 2 ^ d := hn
          _ = 128 * 2 ^ (d - 7) := by rw [show (128 : Nat) = 2 ^ 7 by decide, ← Nat.pow_add]; congr 1; omega
      rw [if_neg (by omega), if_neg (by omega), hb, if_neg (by omega), ih (d - 7) (by omega) (n / 128) (k + 1) hn' (by omega) (by omega)]
      simp only [Option.map_some]
      have hpow : 2 ^ (7 * (k + 1)) = 128 * 2 ^ (7 * k) := by
        rw [show 7 * (k + 1) = 7 * k + 7 by omega, Nat.pow_add]; omega
      rw [hpow]
      have e1 : (n % 128 + 128) % 128 = n % 128 := by omega
      rw [e1, ← Nat.mul_assoc, ← Nat.add_mul]
      have e2 : n % 128 + n / 128 * 128 = n := by omega
      rw [e2]
      congr 2
      omega
theorem readVar_varint {n : Nat} (t : Bytes) (h : n < 2 ^ 64) : readVar (varint n ++ t) = some (n, (varint n).length) := by
  have := readAt_varint t 64 n 0 h (by omega) (by omega)
  simpa [readVar] using this
theorem varint_length : ∀ (d n : Nat), n < 2 ^ (7 * d) → 1 ≤ d → (varint n).length ≤ d := by
  intro d
  induction d with
  | zero => intro n _ h; omega
  | succ d ih =>
    intro n hn _
    by_cases h : n < 128
    · rw [varint_lt h]; simp
    · rw [varint_ge h]
      have hd : 1 ≤ d := by
        rcases Nat.eq_zero_or_pos d with e | e
        · subst e; simp at hn; omega
        · exact e
      have : n / 128 < 2 ^ (7 * d) := by
        apply Nat.div_lt_of_lt_mul
        calc n < 2 ^ (7 * (d + 1)) := hn
          _ = 128 * 2 ^ (7 * d) := by rw [show (128 : Nat) = 2 ^ 7 by decide, ← Nat.pow_add]; congr 1; omega
      have := ih _ this hd
      simp; omega
theorem varint_len10 {n : Nat} (h : n < 2 ^ 64) : (varint n).length ≤ 10 :=
  varint_length 10 n (Nat.lt_of_lt_of_le h (by decide)) (by decide)
theorem varint_ne (n : Nat) : varint n ≠ [] := by
  by_cases h : n < 128
  · rw [varint_lt h]; simp
  · rw [varint_ge h]; simp
def Fld.Ok (f : Fld) : Prop := 1 ≤ f.num ∧ f.num < 2 ^ 29 ∧ ((f.kind = 0 ∧ f.s = [] ∧ f.n < 2 ^ 64) ∨ (f.kind = 1 ∧ f.s.length = 8 ∧ f.n = 0) ∨ (f.kind = 2 ∧ f.s.length < 2 ^ 64 ∧ f.n = 0) ∨ (f.kind = 5 ∧ f.s.length = 4 ∧ f.n = 0))
def Fld.enc (f : Fld) : Bytes :=
  varint (f.num * 8 + f.kind) ++ (if f.kind = 0 then varint f.n else if f.kind = 2 then varint f.s.length else []) ++ f.s
theorem takeF_enc {f : Fld} (h : f.Ok) (t : Bytes) : takeF (f.enc ++ t) = some (f, t) := by
  obtain ⟨num, kind, n, s⟩ := f
  obtain ⟨h1, h2, h⟩ := h
  simp only at h1 h2 h
  simp only [Fld.enc, takeF]
  have hk : kind < 8 := by omega
  have htag : num * 8 + kind < 2 ^ 64 := by omega
  rw [show (varint (num * 8 + kind) ++ (if kind = 0 then varint n else if kind = 2 then varint s.length else []) ++ s ++ t) = varint (num * 8 + kind) ++ ((if kind = 0 then varint n else if kind = 2 then varint s.length else []) ++ (s ++ t)) by simp]
  rw [readVar_varint _ htag]
  simp only
  rw [if_neg (by omega), List.drop_left]
  have e1 : (num * 8 + kind) % 8 = kind := by omega
  have e2 : (num * 8 + kind) / 8 = num := by omega
  rw [e1, e2]
  rcases h with ⟨rfl, rfl, h⟩ | ⟨rfl, h, rfl⟩ | ⟨rfl, h, rfl⟩ | ⟨rfl, h, rfl⟩
  · simp only [body, if_true, List.nil_append]
    rw [readVar_varint _ h]
    simp
  · simp [body, h]
  · simp only [body]
    simp only [show ¬ ((2 : Nat) = 0) by decide, show ¬ ((2 : Nat) = 1) by decide, if_false, if_true]
    rw [readVar_varint _ h]
    simp
  · simp [body, h]
theorem parse_enc {f : Fld} (h : f.Ok) (t : Bytes) : parse (f.enc ++ t) = (parse t).map (f :: ·) := parse_some (takeF_enc h t)
def encs (l : List Fld) : Bytes := l.flatMap Fld.enc
theorem parse_encs (l : List Fld) (h : ∀ f ∈ l, f.Ok) (t : Bytes) : parse (encs l ++ t) = (parse t).map (l ++ ·) := by
  induction l with
  | nil => simp [encs]
  | cons f l ih =>
    have e : encs (f :: l) ++ t = f.enc ++ (encs l ++ t) := by simp [encs]
    rw [e, parse_enc (h f (by simp)), ih (fun g hg => h g (by simp [hg]))]
    cases parse t <;> simp
theorem parse_encs' (l : List Fld) (h : ∀ f ∈ l, f.Ok) : parse (encs l) = some l := by
  have := parse_encs l h []
  simpa [parse_nil] using this
theorem parse_prefix {l : List Fld} (h : ∀ f ∈ l, f.Ok) {p q : Bytes} (e : encs l = p ++ q) {gs} (hp : parse p = some gs) : ∃ hs, l = gs ++ hs := by
  have h1 := parse_encs' l h
  rw [e, parse_app hp] at h1
  cases hq : parse q with
  | none => simp [hq] at h1
  | some x => simp [hq] at h1; exact ⟨x, h1.symm⟩
end NW
namespace Go.Proofs.YtbdacbcpniegiaaDoor
open Go Go.RowKit Go.Proofs Go.Sx
set_option maxHeartbeats 1000000
set_option linter.unusedSimpArgs false
set_option linter.unusedVariables false
set_option maxRecDepth 10000 in
theorem or128 {x : Int} (h0 : 0 ≤ x) (h1 : x < 256) : bits .or .u8 x 128 = x % 128 + 128 := by
  have := (by decide : ∀ x : Fin 256, bits .or .u8 (x.val : Int) 128 = (x.val : Int) % 128 + 128) ⟨x.toNat, by omega⟩
  simp only [Int.toNat_of_nonneg h0] at this
  exact this
theorem varint_any (n : Nat) (hn : n < 18446744073709551616) (w : World) :
    Calls Tryd.prog 128 #[.int .u64 n] w fun e w' => e = .returned (.string (B (NW.varint n))) ∧ Below w.heap.size w w' := by
  have hlen := NW.varint_len10 (n := n) (by omega)
  refine calls_pureK (args := [.int .u64 n]) w Tryd.func128 rfl Tryd.ntmps128 (by simp) ?_
  intro X K hX hK
  have hnt : X.nt = 21 := by rw [hX]
  have hwi : X.wi = w := by rw [hX]
  have hP : X.P = Tryd.prog := by rw [hX]
  have hown : X.own = [] := by rw [hX]
  have hbl : X.base.length = 0 := by rw [hX]; rfl
  clear hX
  have hT : elemInf X.P 58 = some (5, 1, 1, (Value.int IntKind.u8 0)) ∧ X.P.underlying 22 = some (TypeDesc.int IntKind.u64) ∧ X.P.underlying 5 = some (TypeDesc.int IntKind.u8) ∧ isBytesT X.P 22 = false ∧ isStrT X.P 5 = false ∧ elemSz X.P 58 = some (5, 1) ∧ zeroCells X.P 5 = some [(Value.int IntKind.u8 0)] ∧ isStrT X.P 58 = false ∧ X.P.underlying 58 = some (TypeDesc.slice 5) ∧ X.P.underlying 9 = some TypeDesc.string ∧ isBytesT X.P 58 = true ∧ isStrT X.P 9 = true := by rw [hP]; exact ⟨Ty.ei58, Tryd.underlying22, Tryd.underlying5, Ty.ib22, Ty.is5, Ty.el58, Ty.ze5, Ty.is58, Tryd.underlying58, Tryd.underlying9, Ty.ib58, Ty.is9⟩
  refine SX.seqK ?_
  intro N hN
  refine SX.ops ?_
  simp only [GA, ↓GB, List.filterMap_cons, eq_self, BEq.rfl, simprocAttr, hnt, hT]
  refine hN _ ?_
  clear hN N
  refine SX.seqK ?_
  intro N hN
  refine SX.ops ?_
  simp only [GA, ↓GB, List.filterMap_cons, eq_self, BEq.rfl, simprocAttr, hnt, hT]
  refine hN _ ?_
  clear hN N
  refine SX.seqK ?_
  intro N hN
  refine SX.block (SX.loop (ι := { p : Nat × List UInt8 // p.2 ++ NW.varint p.1 = NW.varint n ∧ p.1 < 18446744073709551616 }) (fun i => ⟨[(0, vv (.int .u64 i.1.1)), (3, .one (.c (.row 0)))], [.row 5 1 i.1.2.length (bcells i.1.2)]⟩) (fun i => i.1.1) ⟨(n, []), by simp, hn⟩ ⟨[0], (LeR.of (by rw [hbl]; decide) (by simp only [GA, ↓GB, List.filterMap_cons, eq_self, BEq.rfl, simprocAttr, List.getD_cons_zero, List.getD_cons_succ, or_false, false_or, or_self, or_true, true_or, decide_true]; try (rfl)) (by simp only [GA, ↓GB, List.filterMap_cons, eq_self, BEq.rfl, simprocAttr, List.getD_cons_zero, List.getD_cons_succ, or_false, false_or, or_self, or_true, true_or, decide_true]; try (rfl)) (by decide) (by simp only [GA, ↓GB, List.filterMap_cons, eq_self, BEq.rfl, simprocAttr, List.getD_cons_zero, List.getD_cons_succ, or_false, false_or, or_self, or_true, true_or, decide_true]) (by simp only [GA, ↓GB, List.filterMap_cons, eq_self, BEq.rfl, simprocAttr, List.getD_cons_zero, List.getD_cons_succ, or_false, false_or, or_self, or_true, true_or, decide_true]) (by simp only [GA, ↓GB, List.filterMap_cons, eq_self, BEq.rfl, simprocAttr, List.getD_cons_zero, List.getD_cons_succ, or_false, false_or, or_self, or_true, true_or, decide_true]))⟩ ?_)
  rintro ⟨⟨m, l⟩, hml, hm⟩
  simp only at hml hm ⊢
  have hl10 : l.length ≤ 10 := by have := congrArg List.length hml; simp at this; omega
  refine SX.seqK ?_; intro N2 hN2
  refine SX.seqK ?_; intro N3 hN3
  refine SX.ops ?_
  simp only [GA, ↓GB, List.filterMap_cons, eq_self, BEq.rfl, simprocAttr, hnt, hT]
  refine hN3 _ ?_
  clear hN3 N3
  refine SX.cond (b := decide ((128 : Int) ≤ m)) rfl (fun hb => ?_) (fun hb => ?_)
  · refine SX.skip (hN2 _ ?_)
    clear hN2 N2
    have hb' : 128 ≤ m := by have := of_decide_eq_true hb; omega
    refine SX.seqK ?_; intro N4 hN4
    refine SX.block ?_
    refine SX.ops ?_
    simp only [GA, ↓GB, List.filterMap_cons, eq_self, BEq.rfl, simprocAttr, hnt, hT]
    have e1 : IntKind.u8.wrap (m : Int) = ((m % 256 : Nat) : Int) := by rw [IntKind.wrap_u8]; omega
    rw [e1, or128 (by omega) (by omega)]
    first | refine ⟨by omega, hN4 _ ?_⟩ | refine hN4 _ ?_
    clear hN4 N4
    refine SX.ops ?_
    simp only [GA, ↓GB, List.filterMap_cons, eq_self, BEq.rfl, simprocAttr, hnt, hT]
    have e2 : (m : Int).fdiv (2 ^ (min 7 IntKind.u64.bits)) = ((m / 128 : Nat) : Int) := by
      rw [show (2 : Int) ^ (min 7 IntKind.u64.bits) = 128 from rfl, Int.fdiv_eq_ediv_of_nonneg _ (by decide)]; omega
    have e3 : ((m % 256 : Nat) : Int) % 128 + 128 = ((UInt8.ofNat (m % 128 + 128)).toNat : Int) := by
      simp [UInt8.toNat_ofNat']; omega
    rw [e2, e3]
    refine ⟨⟨(m / 128, l ++ [UInt8.ofNat (m % 128 + 128)]), ?_, by omega⟩, [2], (LeR.of (by rw [hbl]; decide) (by simp only [GA, ↓GB, List.filterMap_cons, eq_self, BEq.rfl, simprocAttr, List.getD_cons_zero, List.getD_cons_succ, or_false, false_or, or_self, or_true, true_or, decide_true]; try (simp [bcells])) (by simp only [GA, ↓GB, List.filterMap_cons, eq_self, BEq.rfl, simprocAttr, List.getD_cons_zero, List.getD_cons_succ, or_false, false_or, or_self, or_true, true_or, decide_true]; try (simp [bcells])) (by decide) (by simp only [GA, ↓GB, List.filterMap_cons, eq_self, BEq.rfl, simprocAttr, List.getD_cons_zero, List.getD_cons_succ, or_false, false_or, or_self, or_true, true_or, decide_true]) (by simp only [GA, ↓GB, List.filterMap_cons, eq_self, BEq.rfl, simprocAttr, List.getD_cons_zero, List.getD_cons_succ, or_false, false_or, or_self, or_true, true_or, decide_true]) (by simp only [GA, ↓GB, List.filterMap_cons, eq_self, BEq.rfl, simprocAttr, List.getD_cons_zero, List.getD_cons_succ, or_false, false_or, or_self, or_true, true_or, decide_true])), (by show m / 128 < m; omega)⟩
    rw [← hml, NW.varint_ge (by omega : ¬ m < 128)]; simp
  · refine SX.exit ?_
    simp only [GA, ↓GB, List.filterMap_cons, eq_self, BEq.rfl, simprocAttr, hnt]
    have hb' : m < 128 := by have := of_decide_eq_false hb; omega
    refine hN _ ?_
    clear hN hN2 N N2
    refine SX.seqK ?_
    intro N hN
    refine SX.ops ?_
    simp only [GA, ↓GB, List.filterMap_cons, eq_self, BEq.rfl, simprocAttr, hnt, hT]
    have e1 : IntKind.u8.wrap (m : Int) = ((UInt8.ofNat m).toNat : Int) := by rw [IntKind.wrap_u8]; simp [UInt8.toNat_ofNat']
    rw [e1]
    refine ⟨by omega, l ++ [UInt8.ofNat m], by simp [bcells], ?_⟩
    refine hN _ ?_
    clear hN N
    refine SX.ret (hK _ _ (Fin.one rfl rfl hown ?_))
    rw [hwi]; intro w' hb; exact ⟨by rw [← hml, NW.varint_lt hb'], hb⟩
end Go.Proofs.YtbdacbcpniegiaaDoor
namespace Go.Proofs.YtbdacbcpniegiaaDoor
open Go Go.RowKit Go.Proofs Go.Sx
set_option maxHeartbeats 4000000
set_option maxRecDepth 100000
set_option linter.unusedSimpArgs false
set_option linter.unusedVariables false
theorem isNaN_int (a : Int) (w : World) : Calls Tryd.prog 148 #[.int .i64 a] w fun e w' => e = .returned (.bool false) ∧ Below w.heap.size w w' := by
  refine calls_pureK (args := [.int .i64 a]) w Tryd.func148 rfl Tryd.ntmps148 (by simp) ?_
  intro X K hX hK
  have hnt : X.nt = 6 := by rw [hX]
  have hwi : X.wi = w := by rw [hX]
  have hP : X.P = Tryd.prog := by rw [hX]
  have hown : X.own = [] := by rw [hX]
  have hbl : X.base.length = 0 := by rw [hX]; rfl
  clear hX
  have hT : True := trivial
  repeat' (first
    | (refine SX.seqK ?_; intro N hN)
    | ((first | (refine SX.ops ?_)); simp only [GA, ↓GB, List.filterMap_cons, eq_self, BEq.rfl, simprocAttr, hnt, hT])
    | ((first | refine SX.skip ?_ | refine SX.exit ?_ | refine SX.label ?_); try simp only [GA, ↓GB, List.filterMap_cons, eq_self, BEq.rfl, simprocAttr])
    | (refine SX.cond rfl (fun hb => ?_) (fun hb => ?_) <;> ((first | cases hb | (simp only [decide_eq_true_eq, decide_eq_false_iff_not, beq_iff_eq, beq_eq_false_iff_ne, bne_iff_ne, Bool.and_eq_true, Bool.or_eq_true, Bool.not_eq_true', Bool.not_eq_false', Bool.and_eq_false_iff, Bool.or_eq_false_iff, Int.not_lt, Int.not_le] at hb) | skip) <;> (first | (exfalso; omega) | skip)))
    | (refine SX.ret ?_; try simp only [GA, ↓GB, List.filterMap_cons, eq_self, BEq.rfl, simprocAttr])
    | (refine hN _ ?_; clear hN N)
    | (refine hK _ _ (Fin.res rfl hown ?_); simp only [GA, ↓GB, List.filterMap_cons, eq_self, BEq.rfl, simprocAttr, f_a, f_b, f_n, f_c, f_B, f_v, f_g, f_0, f_1, f_2, hT, hwi]; intro w' hbel; refine Done.out ?_)
    | (clear hN N; first | (refine hN _ ?_; clear hN N) | (clear hN N; first | (refine hN _ ?_; clear hN N) | (clear hN N; first | (refine hN _ ?_; clear hN N) | (clear hN N; first | (refine hN _ ?_; clear hN N) | (clear hN N; first | (refine hN _ ?_; clear hN N) | (refine hN _ ?_; clear hN N))))))
    | (refine bif2.mk (fun hb => ?_) (fun hb => ?_) <;> (try simp only [hb, GA, ↓GB, List.filterMap_cons, eq_self, BEq.rfl, simprocAttr, hnt, hT]) <;> ((first | cases hb | (simp only [decide_eq_true_eq, decide_eq_false_iff_not, beq_iff_eq, beq_eq_false_iff_ne, bne_iff_ne, Bool.and_eq_true, Bool.or_eq_true, Bool.not_eq_true', Bool.not_eq_false', Bool.and_eq_false_iff, Bool.or_eq_false_iff, Int.not_lt, Int.not_le] at hb) | skip) <;> (first | (exfalso; omega) | skip)))
    | (refine SX.block ?_)
    | (refine and_mk ?_ ?_; (focus first | decide | omega | rfl | assumption | (simp only [List.length_append, List.length_cons, List.length_nil, B_size]; omega) | (simp; done)))
    | (refine And.intro ?_ ?_))
  all_goals (try refine Done.mk ?_)
  exact hbel
theorem isNaN_u64 (a : Int) (w : World) : Calls Tryd.prog 133 #[.int .u64 a] w fun e w' => e = .returned (.bool false) ∧ Below w.heap.size w w' := by
  refine calls_pureK (args := [.int .u64 a]) w Tryd.func133 rfl Tryd.ntmps133 (by simp) ?_
  intro X K hX hK
  have hnt : X.nt = 6 := by rw [hX]
  have hwi : X.wi = w := by rw [hX]
  have hP : X.P = Tryd.prog := by rw [hX]
  have hown : X.own = [] := by rw [hX]
  have hbl : X.base.length = 0 := by rw [hX]; rfl
  clear hX
  have hT : True := trivial
  repeat' (first
    | (refine SX.seqK ?_; intro N hN)
    | ((first | (refine SX.ops ?_)); simp only [GA, ↓GB, List.filterMap_cons, eq_self, BEq.rfl, simprocAttr, hnt, hT])
    | ((first | refine SX.skip ?_ | refine SX.exit ?_ | refine SX.label ?_); try simp only [GA, ↓GB, List.filterMap_cons, eq_self, BEq.rfl, simprocAttr])
    | (refine SX.cond rfl (fun hb => ?_) (fun hb => ?_) <;> ((first | cases hb | (simp only [decide_eq_true_eq, decide_eq_false_iff_not, beq_iff_eq, beq_eq_false_iff_ne, bne_iff_ne, Bool.and_eq_true, Bool.or_eq_true, Bool.not_eq_true', Bool.not_eq_false', Bool.and_eq_false_iff, Bool.or_eq_false_iff, Int.not_lt, Int.not_le] at hb) | skip) <;> (first | (exfalso; omega) | skip)))
    | (refine SX.ret ?_; try simp only [GA, ↓GB, List.filterMap_cons, eq_self, BEq.rfl, simprocAttr])
    | (refine hN _ ?_; clear hN N)
    | (refine hK _ _ (Fin.res rfl hown ?_); simp only [GA, ↓GB, List.filterMap_cons, eq_self, BEq.rfl, simprocAttr, f_a, f_b, f_n, f_c, f_B, f_v, f_g, f_0, f_1, f_2, hT, hwi]; intro w' hbel; refine Done.out ?_)
    | (clear hN N; first | (refine hN _ ?_; clear hN N) | (clear hN N; first | (refine hN _ ?_; clear hN N) | (clear hN N; first | (refine hN _ ?_; clear hN N) | (clear hN N; first | (refine hN _ ?_; clear hN N) | (clear hN N; first | (refine hN _ ?_; clear hN N) | (refine hN _ ?_; clear hN N))))))
    | (refine bif2.mk (fun hb => ?_) (fun hb => ?_) <;> (try simp only [hb, GA, ↓GB, List.filterMap_cons, eq_self, BEq.rfl, simprocAttr, hnt, hT]) <;> ((first | cases hb | (simp only [decide_eq_true_eq, decide_eq_false_iff_not, beq_iff_eq, beq_eq_false_iff_ne, bne_iff_ne, Bool.and_eq_true, Bool.or_eq_true, Bool.not_eq_true', Bool.not_eq_false', Bool.and_eq_false_iff, Bool.or_eq_false_iff, Int.not_lt, Int.not_le] at hb) | skip) <;> (first | (exfalso; omega) | skip)))
    | (refine SX.block ?_)
    | (refine and_mk ?_ ?_; (focus first | decide | omega | rfl | assumption | (simp only [List.length_append, List.length_cons, List.length_nil, B_size]; omega) | (simp; done)))
    | (refine And.intro ?_ ?_))
  all_goals (try refine Done.mk ?_)
  exact hbel
theorem isNaN_str (s : List UInt8) (w : World) : Calls Tryd.prog 149 #[.string (B s)] w fun e w' => e = .returned (.bool false) ∧ Below w.heap.size w w' := by
  refine calls_pureK (args := [.string (B s)]) w Tryd.func149 rfl Tryd.ntmps149 (by simp) ?_
  intro X K hX hK
  have hnt : X.nt = 6 := by rw [hX]
  have hwi : X.wi = w := by rw [hX]
  have hP : X.P = Tryd.prog := by rw [hX]
  have hown : X.own = [] := by rw [hX]
  have hbl : X.base.length = 0 := by rw [hX]; rfl
  clear hX
  have hT : True := trivial
  repeat' (first
    | (refine SX.seqK ?_; intro N hN)
    | ((first | (refine SX.ops ?_)); simp only [GA, ↓GB, List.filterMap_cons, eq_self, BEq.rfl, simprocAttr, hnt, hT])
    | ((first | refine SX.skip ?_ | refine SX.exit ?_ | refine SX.label ?_); try simp only [GA, ↓GB, List.filterMap_cons, eq_self, BEq.rfl, simprocAttr])
    | (refine SX.cond rfl (fun hb => ?_) (fun hb => ?_) <;> ((first | cases hb | (simp only [decide_eq_true_eq, decide_eq_false_iff_not, beq_iff_eq, beq_eq_false_iff_ne, bne_iff_ne, Bool.and_eq_true, Bool.or_eq_true, Bool.not_eq_true', Bool.not_eq_false', Bool.and_eq_false_iff, Bool.or_eq_false_iff, Int.not_lt, Int.not_le] at hb) | skip) <;> (first | (exfalso; omega) | skip)))
    | (refine SX.ret ?_; try simp only [GA, ↓GB, List.filterMap_cons, eq_self, BEq.rfl, simprocAttr])
    | (refine hN _ ?_; clear hN N)
    | (refine hK _ _ (Fin.res rfl hown ?_); simp only [GA, ↓GB, List.filterMap_cons, eq_self, BEq.rfl, simprocAttr, f_a, f_b, f_n, f_c, f_B, f_v, f_g, f_0, f_1, f_2, hT, hwi]; intro w' hbel; refine Done.out ?_)
    | (clear hN N; first | (refine hN _ ?_; clear hN N) | (clear hN N; first | (refine hN _ ?_; clear hN N) | (clear hN N; first | (refine hN _ ?_; clear hN N) | (clear hN N; first | (refine hN _ ?_; clear hN N) | (clear hN N; first | (refine hN _ ?_; clear hN N) | (refine hN _ ?_; clear hN N))))))
    | (refine bif2.mk (fun hb => ?_) (fun hb => ?_) <;> (try simp only [hb, GA, ↓GB, List.filterMap_cons, eq_self, BEq.rfl, simprocAttr, hnt, hT]) <;> ((first | cases hb | (simp only [decide_eq_true_eq, decide_eq_false_iff_not, beq_iff_eq, beq_eq_false_iff_ne, bne_iff_ne, Bool.and_eq_true, Bool.or_eq_true, Bool.not_eq_true', Bool.not_eq_false', Bool.and_eq_false_iff, Bool.or_eq_false_iff, Int.not_lt, Int.not_le] at hb) | skip) <;> (first | (exfalso; omega) | skip)))
    | (refine SX.block ?_)
    | (refine and_mk ?_ ?_; (focus first | decide | omega | rfl | assumption | (simp only [List.length_append, List.length_cons, List.length_nil, B_size]; omega) | (simp; done)))
    | (refine And.intro ?_ ?_))
  all_goals (try refine Done.mk ?_)
  exact hbel
theorem compare_int (a b : Int) (w : World) : Calls Tryd.prog 120 #[.int .i64 a, .int .i64 b] w fun e w' => e = .returned (.int .i64 (cmpI a b)) ∧ Below w.heap.size w w' := by
  refine calls_pureK (args := [.int .i64 a, .int .i64 b]) w Tryd.func120 rfl Tryd.ntmps120 (by simp) ?_
  intro X K hX hK
  have hnt : X.nt = 20 := by rw [hX]
  have hwi : X.wi = w := by rw [hX]
  have hP : X.P = Tryd.prog := by rw [hX]
  have hown : X.own = [] := by rw [hX]
  have hbl : X.base.length = 0 := by rw [hX]; rfl
  clear hX
  have hT : calleeOk X.P 148 = true := by rw [hP]; exact Ty.co148
  repeat' (first
    | (refine SX.seqK ?_; intro N hN)
    | ((first | (refine SX.ops ?_)); simp only [GA, ↓GB, List.filterMap_cons, eq_self, BEq.rfl, simprocAttr, hnt, hT])
    | ((first | refine SX.skip ?_ | refine SX.exit ?_ | refine SX.label ?_); try simp only [GA, ↓GB, List.filterMap_cons, eq_self, BEq.rfl, simprocAttr])
    | (refine SX.cond rfl (fun hb => ?_) (fun hb => ?_) <;> ((first | cases hb | (simp only [decide_eq_true_eq, decide_eq_false_iff_not, beq_iff_eq, beq_eq_false_iff_ne, bne_iff_ne, Bool.and_eq_true, Bool.or_eq_true, Bool.not_eq_true', Bool.not_eq_false', Bool.and_eq_false_iff, Bool.or_eq_false_iff, Int.not_lt, Int.not_le] at hb) | skip) <;> (first | (exfalso; omega) | skip)))
    | (refine SX.ret ?_; try simp only [GA, ↓GB, List.filterMap_cons, eq_self, BEq.rfl, simprocAttr])
    | (refine hN _ ?_; clear hN N)
    | (refine hK _ _ (Fin.res rfl hown ?_); simp only [GA, ↓GB, List.filterMap_cons, eq_self, BEq.rfl, simprocAttr, f_a, f_b, f_n, f_c, f_B, f_v, f_g, f_0, f_1, f_2, hT, hwi]; intro w' hbel; refine Done.out ?_)
    | (clear hN N; first | (refine hN _ ?_; clear hN N) | (clear hN N; first | (refine hN _ ?_; clear hN N) | (clear hN N; first | (refine hN _ ?_; clear hN N) | (clear hN N; first | (refine hN _ ?_; clear hN N) | (clear hN N; first | (refine hN _ ?_; clear hN N) | (refine hN _ ?_; clear hN N))))))
    | (refine bif2.mk (fun hb => ?_) (fun hb => ?_) <;> (try simp only [hb, GA, ↓GB, List.filterMap_cons, eq_self, BEq.rfl, simprocAttr, hnt, hT]) <;> ((first | cases hb | (simp only [decide_eq_true_eq, decide_eq_false_iff_not, beq_iff_eq, beq_eq_false_iff_ne, bne_iff_ne, Bool.and_eq_true, Bool.or_eq_true, Bool.not_eq_true', Bool.not_eq_false', Bool.and_eq_false_iff, Bool.or_eq_false_iff, Int.not_lt, Int.not_le] at hb) | skip) <;> (first | (exfalso; omega) | skip)))
    | ((first | (refine CallVC.pv hP (isNaN_int _) rfl ?_) | (refine CallQ.pv hP (isNaN_int _) rfl ?_)); simp only [GA, ↓GB, List.filterMap_cons, eq_self, BEq.rfl, simprocAttr, hnt, hT])
    | (refine SX.block ?_)
    | (refine and_mk ?_ ?_; (focus first | decide | omega | rfl | assumption | (simp only [List.length_append, List.length_cons, List.length_nil, B_size]; omega) | (simp; done)))
    | (refine And.intro ?_ ?_))
  all_goals (try refine Done.mk ?_)
  all_goals (refine ⟨?_, hbel⟩; congr 2; simp only [cmpI]; split <;> (try split) <;> omega)
theorem compare_u64 (a b : Int) (w : World) : Calls Tryd.prog 86 #[.int .u64 a, .int .u64 b] w fun e w' => e = .returned (.int .i64 (cmpI a b)) ∧ Below w.heap.size w w' := by
  refine calls_pureK (args := [.int .u64 a, .int .u64 b]) w Tryd.func86 rfl Tryd.ntmps86 (by simp) ?_
  intro X K hX hK
  have hnt : X.nt = 20 := by rw [hX]
  have hwi : X.wi = w := by rw [hX]
  have hP : X.P = Tryd.prog := by rw [hX]
  have hown : X.own = [] := by rw [hX]
  have hbl : X.base.length = 0 := by rw [hX]; rfl
  clear hX
  have hT : calleeOk X.P 133 = true := by rw [hP]; exact Ty.co133
  repeat' (first
    | (refine SX.seqK ?_; intro N hN)
    | ((first | (refine SX.ops ?_)); simp only [GA, ↓GB, List.filterMap_cons, eq_self, BEq.rfl, simprocAttr, hnt, hT])
    | ((first | refine SX.skip ?_ | refine SX.exit ?_ | refine SX.label ?_); try simp only [GA, ↓GB, List.filterMap_cons, eq_self, BEq.rfl, simprocAttr])
    | (refine SX.cond rfl (fun hb => ?_) (fun hb => ?_) <;> ((first | cases hb | (simp only [decide_eq_true_eq, decide_eq_false_iff_not, beq_iff_eq, beq_eq_false_iff_ne, bne_iff_ne, Bool.and_eq_true, Bool.or_eq_true, Bool.not_eq_true', Bool.not_eq_false', Bool.and_eq_false_iff, Bool.or_eq_false_iff, Int.not_lt, Int.not_le] at hb) | skip) <;> (first | (exfalso; omega) | skip)))
    | (refine SX.ret ?_; try simp only [GA, ↓GB, List.filterMap_cons, eq_self, BEq.rfl, simprocAttr])
    | (refine hN _ ?_; clear hN N)
    | (refine hK _ _ (Fin.res rfl hown ?_); simp only [GA, ↓GB, List.filterMap_cons, eq_self, BEq.rfl, simprocAttr, f_a, f_b, f_n, f_c, f_B, f_v, f_g, f_0, f_1, f_2, hT, hwi]; intro w' hbel; refine Done.out ?_)
    | (clear hN N; first | (refine hN _ ?_; clear hN N) | (clear hN N; first | (refine hN _ ?_; clear hN N) | (clear hN N; first | (refine hN _ ?_; clear hN N) | (clear hN N; first | (refine hN _ ?_; clear hN N) | (clear hN N; first | (refine hN _ ?_; clear hN N) | (refine hN _ ?_; clear hN N))))))
    | (refine bif2.mk (fun hb => ?_) (fun hb => ?_) <;> (try simp only [hb, GA, ↓GB, List.filterMap_cons, eq_self, BEq.rfl, simprocAttr, hnt, hT]) <;> ((first | cases hb | (simp only [decide_eq_true_eq, decide_eq_false_iff_not, beq_iff_eq, beq_eq_false_iff_ne, bne_iff_ne, Bool.and_eq_true, Bool.or_eq_true, Bool.not_eq_true', Bool.not_eq_false', Bool.and_eq_false_iff, Bool.or_eq_false_iff, Int.not_lt, Int.not_le] at hb) | skip) <;> (first | (exfalso; omega) | skip)))
    | ((first | (refine CallVC.pv hP (isNaN_u64 _) rfl ?_) | (refine CallQ.pv hP (isNaN_u64 _) rfl ?_)); simp only [GA, ↓GB, List.filterMap_cons, eq_self, BEq.rfl, simprocAttr, hnt, hT])
    | (refine SX.block ?_)
    | (refine and_mk ?_ ?_; (focus first | decide | omega | rfl | assumption | (simp only [List.length_append, List.length_cons, List.length_nil, B_size]; omega) | (simp; done)))
    | (refine And.intro ?_ ?_))
  all_goals (try refine Done.mk ?_)
  all_goals (refine ⟨?_, hbel⟩; congr 2; simp only [cmpI]; split <;> (try split) <;> omega)
theorem compare_str (a b : List UInt8) (w : World) : Calls Tryd.prog 121 #[.string (B a), .string (B b)] w fun e w' => e = .returned (.int .i64 (cmpS a b)) ∧ Below w.heap.size w w' := by
  refine calls_pureK (args := [.string (B a), .string (B b)]) w Tryd.func121 rfl Tryd.ntmps121 (by simp) ?_
  intro X K hX hK
  have hnt : X.nt = 20 := by rw [hX]
  have hwi : X.wi = w := by rw [hX]
  have hP : X.P = Tryd.prog := by rw [hX]
  have hown : X.own = [] := by rw [hX]
  have hbl : X.base.length = 0 := by rw [hX]; rfl
  clear hX
  have hT : calleeOk X.P 149 = true := by rw [hP]; exact Ty.co149
  repeat' (first
    | (refine SX.seqK ?_; intro N hN)
    | ((first | (refine SX.ops ?_)); simp only [GA, ↓GB, List.filterMap_cons, eq_self, BEq.rfl, simprocAttr, hnt, hT, gtr_eq])
    | ((first | refine SX.skip ?_ | refine SX.exit ?_ | refine SX.label ?_); try simp only [GA, ↓GB, List.filterMap_cons, eq_self, BEq.rfl, simprocAttr])
    | (refine SX.cond rfl (fun hb => ?_) (fun hb => ?_) <;> ((first | cases hb | (simp only [decide_eq_true_eq, decide_eq_false_iff_not, beq_iff_eq, beq_eq_false_iff_ne, bne_iff_ne, Bool.and_eq_true, Bool.or_eq_true, Bool.not_eq_true', Bool.not_eq_false', Bool.and_eq_false_iff, Bool.or_eq_false_iff, Int.not_lt, Int.not_le] at hb) | skip) <;> (first | (exfalso; omega) | skip)))
    | (refine SX.ret ?_; try simp only [GA, ↓GB, List.filterMap_cons, eq_self, BEq.rfl, simprocAttr])
    | (refine hN _ ?_; clear hN N)
    | (refine hK _ _ (Fin.res rfl hown ?_); simp only [GA, ↓GB, List.filterMap_cons, eq_self, BEq.rfl, simprocAttr, f_a, f_b, f_n, f_c, f_B, f_v, f_g, f_0, f_1, f_2, hT, hwi, gtr_eq]; intro w' hbel; refine Done.out ?_)
    | (clear hN N; first | (refine hN _ ?_; clear hN N) | (clear hN N; first | (refine hN _ ?_; clear hN N) | (clear hN N; first | (refine hN _ ?_; clear hN N) | (clear hN N; first | (refine hN _ ?_; clear hN N) | (clear hN N; first | (refine hN _ ?_; clear hN N) | (refine hN _ ?_; clear hN N))))))
    | (refine bif2.mk (fun hb => ?_) (fun hb => ?_) <;> (try simp only [hb, GA, ↓GB, List.filterMap_cons, eq_self, BEq.rfl, simprocAttr, hnt, hT, gtr_eq]) <;> ((first | cases hb | (simp only [decide_eq_true_eq, decide_eq_false_iff_not, beq_iff_eq, beq_eq_false_iff_ne, bne_iff_ne, Bool.and_eq_true, Bool.or_eq_true, Bool.not_eq_true', Bool.not_eq_false', Bool.and_eq_false_iff, Bool.or_eq_false_iff, Int.not_lt, Int.not_le] at hb) | skip) <;> (first | (exfalso; omega) | skip)))
    | ((first | (refine CallVC.pv hP (isNaN_str _) rfl ?_) | (refine CallQ.pv hP (isNaN_str _) rfl ?_)); simp only [GA, ↓GB, List.filterMap_cons, eq_self, BEq.rfl, simprocAttr, hnt, hT, gtr_eq])
    | (refine SX.block ?_)
    | (refine and_mk ?_ ?_; (focus first | decide | omega | rfl | assumption | (simp only [List.length_append, List.length_cons, List.length_nil, B_size]; omega) | (simp; done)))
    | (refine And.intro ?_ ?_))
  all_goals (try refine Done.mk ?_)
  all_goals (refine ⟨?_, hbel⟩; congr 2; simp_all [cmpS])
end Go.Proofs.YtbdacbcpniegiaaDoor
namespace Go.Proofs.YtbdacbcpniegiaaDoor
open Go Go.RowKit Go.Proofs Go.Sx
set_option maxHeartbeats 4000000
set_option maxRecDepth 100000
set_option linter.unusedSimpArgs false
set_option linter.unusedVariables false
def cmpKey (a : Int) (s : List UInt8) (b : Int) (t : List UInt8) : Int := if cmpI a b ≠ 0 then cmpI a b else cmpS s t
theorem order_any (a b : Int) (s t : List UInt8) (w : World) : Calls Tryd.prog 63 #[.agg #[.int .i64 a, .string (B s)], .agg #[.int .i64 b, .string (B t)]] w fun e w' => e = .returned (.int .i64 (cmpKey a s b t)) ∧ Below w.heap.size w w' := by
  refine calls_pureK (args := [.agg #[.int .i64 a, .string (B s)], .agg #[.int .i64 b, .string (B t)]]) w Tryd.func63 rfl Tryd.ntmps63 (by simp) ?_
  intro X K hX hK
  have hnt : X.nt = 17 := by rw [hX]
  have hwi : X.wi = w := by rw [hX]
  have hP : X.P = Tryd.prog := by rw [hX]
  have hown : X.own = [] := by rw [hX]
  have hbl : X.base.length = 0 := by rw [hX]; rfl
  clear hX
  have hT : fieldOff X.P 26 0 = some 0 ∧ aggOf X.P 3 = some false ∧ szOf X.P 3 = some 1 ∧ calleeOk X.P 120 = true ∧ fieldOff X.P 26 1 = some 1 ∧ aggOf X.P 9 = some false ∧ szOf X.P 9 = some 1 ∧ calleeOk X.P 121 = true ∧ elemSz X.P 51 = some (3, 1) ∧ zeroCells X.P 3 = some [(Value.int IntKind.i64 0)] ∧ calleeOk X.P 119 = true := by rw [hP]; exact ⟨Ty.fo26_0, Ty.ag3, Ty.sz3, Ty.co120, Ty.fo26_1, Ty.ag9, Ty.sz9, Ty.co121, Ty.el51, Ty.ze3, Ty.co119⟩
  have hnt1 := True.intro; have hT1 := True.intro; have hU1P := True.intro
  repeat' (first
    | (refine SX.seqK ?_; intro N hN)
    | ((first | (refine SX.ops ?_) | (refine SX.planT (id := 1) [.q [(0, [2]), (1, [5]), (2, [3]), (3, [7]), (4, [6, 8]), (5, [2]), (6, [10]), (7, [3]), (8, [12]), (9, [11, 13])] none, .s 10, .s 11, .s 12] ?_ ?_ ?_; (focus first | (rw [hP]; kernel_rfl) | (rw [hU1P, hP]; kernel_rfl)); (focus kernel_rfl))); simp only [GA, ↓GB, List.filterMap_cons, eq_self, BEq.rfl, simprocAttr, hnt, hT, hnt1, hT1, hU1P])
    | ((first | refine SX.skip ?_ | refine SX.exit ?_ | refine SX.label ?_); try simp only [GA, ↓GB, List.filterMap_cons, eq_self, BEq.rfl, simprocAttr])
    | (refine SX.cond rfl (fun hb => ?_) (fun hb => ?_) <;> ((first | cases hb | (simp only [decide_eq_true_eq, decide_eq_false_iff_not, beq_iff_eq, beq_eq_false_iff_ne, bne_iff_ne, Bool.and_eq_true, Bool.or_eq_true, Bool.not_eq_true', Bool.not_eq_false', Bool.and_eq_false_iff, Bool.or_eq_false_iff, Int.not_lt, Int.not_le] at hb) | skip) <;> (first | (exfalso; omega) | skip)))
    | (refine SX.ret ?_; try simp only [GA, ↓GB, List.filterMap_cons, eq_self, BEq.rfl, simprocAttr])
    | (refine hN _ ?_; clear hN N)
    | ((first | refine hK1 _ _ (FinI.ret3 ?_) | refine hK1 _ _ (FinI.nrm3 ?_)); (repeat (clear hN N)); clear hK1 K1; simp only [GA, ↓GB, List.filterMap_cons, eq_self, BEq.rfl, simprocAttr, finP_s, hnt, hT, hnt1, hT1, hU1P])
    | (refine hK _ _ (Fin.res rfl hown ?_); simp only [GA, ↓GB, List.filterMap_cons, eq_self, BEq.rfl, simprocAttr, f_a, f_b, f_n, f_c, f_B, f_v, f_g, f_0, f_1, f_2, hT, hwi, hnt1, hT1, hU1P]; intro w' hbel; refine Done.out ?_)
    | (clear hN N; first | (refine hN _ ?_; clear hN N) | (clear hN N; first | (refine hN _ ?_; clear hN N) | (clear hN N; first | (refine hN _ ?_; clear hN N) | (clear hN N; first | (refine hN _ ?_; clear hN N) | (clear hN N; first | (refine hN _ ?_; clear hN N) | (refine hN _ ?_; clear hN N))))))
    | (refine bif2.mk (fun hb => ?_) (fun hb => ?_) <;> (try simp only [hb, GA, ↓GB, List.filterMap_cons, eq_self, BEq.rfl, simprocAttr, hnt, hT, hnt1, hT1, hU1P]) <;> ((first | cases hb | (simp only [decide_eq_true_eq, decide_eq_false_iff_not, beq_iff_eq, beq_eq_false_iff_ne, bne_iff_ne, Bool.and_eq_true, Bool.or_eq_true, Bool.not_eq_true', Bool.not_eq_false', Bool.and_eq_false_iff, Bool.or_eq_false_iff, Int.not_lt, Int.not_le] at hb) | skip) <;> (first | (exfalso; omega) | skip)))
    | ((first | (refine CallVC.pv hP (compare_int _ _) rfl ?_) | (refine CallQ.pv hP (compare_int _ _) rfl ?_) | (refine CallVC.pv hP (compare_str _ _) rfl ?_) | (refine CallQ.pv hP (compare_str _ _) rfl ?_)); simp only [GA, ↓GB, List.filterMap_cons, eq_self, BEq.rfl, simprocAttr, hnt, hT, hnt1, hT1, hU1P])
    | (refine CallVC.inline (f := 119) ?_ rfl Tryd.ntmps119 rfl ?_ ?_; (focus rw [hP]; exact Tryd.func119); (focus simp); have hT1 : X.P.underlying 51 = some (TypeDesc.slice 3) ∧ elemSz X.P 51 = some (3, 1) ∧ aggOf X.P 3 = some false ∧ szOf X.P 3 = some 1 := (by rw [hP]; exact ⟨Tryd.underlying51, Ty.el51, Ty.ag3, Ty.sz3⟩); intro X1 K1 hU1 hnt1 hbl1 hK1; have hU1P := hU1.P; simp only [GA, ↓GB, List.filterMap_cons, eq_self, BEq.rfl, simprocAttr] at hbl1 ⊢)
    | (refine SX.loopN 3 ?_)
    | (refine SXr.stepK ?_; intro N hN)
    | ((first | (refine CallVC.pv (hU1P.trans hP) (compare_int _ _) rfl ?_) | (refine CallQ.pv (hU1P.trans hP) (compare_int _ _) rfl ?_) | (refine CallVC.pv (hU1P.trans hP) (compare_str _ _) rfl ?_) | (refine CallQ.pv (hU1P.trans hP) (compare_str _ _) rfl ?_)); simp only [GA, ↓GB, List.filterMap_cons, eq_self, BEq.rfl, simprocAttr, hnt, hT, hnt1, hT1, hU1P])
    | (refine SX.block ?_)
    | (refine and_mk ?_ ?_; (focus first | decide | omega | rfl | assumption | (simp only [List.length_append, List.length_cons, List.length_nil, B_size]; omega) | (simp; done)))
    | (refine And.intro ?_ ?_))
  all_goals (try refine Done.mk ?_)
  all_goals (refine ⟨?_, hbel⟩; simp_all [cmpKey])
end Go.Proofs.YtbdacbcpniegiaaDoor
namespace Go.Proofs
open Go.Shelf
def Tryd.lays160_ren : Go.Shelf.Ren := ⟨fun | 160 => 140 | 232 => 156 | 231 => 155 | 227 => 157 | 234 => 159 | 233 => 158 | 236 => 161 | 235 => 160 | 228 => 168 | 271 => 171 | 151 => 170 | 197 => 169 | 120 => 176 | 152 => 175 | 260 => 174 | 137 => 177 | 119 => 178 | 224 => 179 | 225 => 180 | 217 => 181 | 266 => 182 | n => n, fun | 9 => 9 | 4 => 4 | 3 => 3 | 5 => 5 | 117 => 221 | 116 => 220 | 0 => 0 | 124 => 224 | 21 => 21 | 105 => 241 | 46 => 164 | 119 => 246 | 139 => 249 | 138 => 248 | n => n, fun | 3 => 4 | 4 => 5 | n => n⟩
theorem Tryd.lays160 : Lays.n160 Tryd.prog Tryd.lays160_ren := {
  mixed := by kernel_rfl,
  f119 := Tryd.func178.trans (congrArg some (by kernel_rfl)),
  f120 := Tryd.func176.trans (congrArg some (by kernel_rfl)),
  f137 := Tryd.func177.trans (congrArg some (by kernel_rfl)),
  f151 := Tryd.func170.trans (congrArg some (by kernel_rfl)),
  f152 := Tryd.func175.trans (congrArg some (by kernel_rfl)),
  f160 := Tryd.func140.trans (congrArg some (by kernel_rfl)),
  f197 := Tryd.func169.trans (congrArg some (by kernel_rfl)),
  f217 := Tryd.func181.trans (congrArg some (by kernel_rfl)),
  f224 := Tryd.func179.trans (congrArg some (by kernel_rfl)),
  f225 := Tryd.func180.trans (congrArg some (by kernel_rfl)),
  f227 := Tryd.func157.trans (congrArg some (by kernel_rfl)),
  f228 := Tryd.func168.trans (congrArg some (by kernel_rfl)),
  f231 := Tryd.func155.trans (congrArg some (by kernel_rfl)),
  f232 := Tryd.func156.trans (congrArg some (by kernel_rfl)),
  f233 := Tryd.func158.trans (congrArg some (by kernel_rfl)),
  f234 := Tryd.func159.trans (congrArg some (by kernel_rfl)),
  f235 := Tryd.func160.trans (congrArg some (by kernel_rfl)),
  f236 := Tryd.func161.trans (congrArg some (by kernel_rfl)),
  f260 := Tryd.func174.trans (congrArg some (by kernel_rfl)),
  f266 := Tryd.func182.trans (congrArg some (by kernel_rfl)),
  f271 := Tryd.func171.trans (congrArg some (by kernel_rfl)),
  t0 := Tryd.underlying0,
  a0 := Tryd.isAgg0,
  z0 := Tryd.sizeOf0,
  v0 := Tryd.zeroValue0,
  t3 := Tryd.underlying3,
  a3 := Tryd.isAgg3,
  z3 := Tryd.sizeOf3,
  v3 := Tryd.zeroValue3,
  t4 := Tryd.underlying4,
  a4 := Tryd.isAgg4,
  z4 := Tryd.sizeOf4,
  v4 := Tryd.zeroValue4,
  t5 := Tryd.underlying5,
  a5 := Tryd.isAgg5,
  z5 := Tryd.sizeOf5,
  v5 := Tryd.zeroValue5,
  t9 := Tryd.underlying9,
  a9 := Tryd.isAgg9,
  z9 := Tryd.sizeOf9,
  v9 := Tryd.zeroValue9,
  t21 := Tryd.underlying21,
  a21 := Tryd.isAgg21,
  z21 := Tryd.sizeOf21,
  v21 := Tryd.zeroValue21,
  t46 := Tryd.underlying164,
  a46 := Tryd.isAgg164,
  z46 := Tryd.sizeOf164,
  v46 := Tryd.zeroValue164,
  t105 := Tryd.underlying241,
  a105 := Tryd.isAgg241,
  z105 := Tryd.sizeOf241,
  v105 := Tryd.zeroValue241,
  t116 := Tryd.underlying220,
  a116 := Tryd.isAgg220,
  z116 := Tryd.sizeOf220,
  t117 := Tryd.underlying221,
  a117 := Tryd.isAgg221,
  z117 := Tryd.sizeOf221,
  v117 := Tryd.zeroValue221,
  t119 := Tryd.underlying246,
  a119 := Tryd.isAgg246,
  z119 := Tryd.sizeOf246,
  t124 := Tryd.underlying224,
  a124 := Tryd.isAgg224,
  z124 := Tryd.sizeOf224,
  v124 := Tryd.zeroValue224,
  t138 := Tryd.underlying248,
  a138 := Tryd.isAgg248,
  z138 := Tryd.sizeOf248,
  v138 := Tryd.zeroValue248,
  t139 := Tryd.underlying249,
  a139 := Tryd.isAgg249,
  z139 := Tryd.sizeOf249,
  v139 := Tryd.zeroValue249,
  g3 := by kernel_rfl,
  g4 := by kernel_rfl }
end Go.Proofs
namespace Go.Proofs.YtbdacbcpniegiaaDoor
open Go Go.RowKit Go.Proofs Go.Sx
def nameCs : List UInt8 := [97, 98, 99, 100, 101, 102, 103, 104, 105, 106, 107, 108, 109, 110, 111, 112, 113, 114, 115, 116, 117, 118, 119, 120, 121, 122, 48, 49, 50, 51, 52, 53, 54, 55, 56, 57, 45, 46, 47]
theorem trim_any (s : List UInt8) (hs : s.length ≤ 9223372036854775807) (w : World) : Calls Tryd.prog 140 #[.string (B s), .string (B nameCs)] w fun e w' => e = .returned (.string (B (Lib.trimS s nameCs))) ∧ Below w.heap.size w w' := by
  have h := Any.strings_Trim_laid Tryd.lays160 (by kernel_rfl) (B s) (B nameCs) w (by rw [B_size]; exact hs) (by decide) (ascii_of_all (by decide))
  exact h
end Go.Proofs.YtbdacbcpniegiaaDoor
namespace Go.Proofs.YtbdacbcpniegiaaDoor
open Go Go.RowKit Go.Proofs Go.Sx
set_option maxHeartbeats 4000000
set_option maxRecDepth 100000
set_option linter.unusedSimpArgs false
set_option linter.unusedVariables false
def nameB (s : List UInt8) : Bool := !(s == []) && decide ((s.length : Int) ≤ 64) && (Lib.trimS s nameCs == [])
theorem name_any (s : List UInt8) (hs : s.length ≤ 9223372036854775807) (w : World) : Calls Tryd.prog 101 #[.string (B s)] w fun e w' => e = .returned (.bool (nameB s)) ∧ Below w.heap.size w w' := by
  refine calls_pureK (args := [.string (B s)]) w Tryd.func101 rfl Tryd.ntmps101 (by simp) ?_
  intro X K hX hK
  have hnt : X.nt = 15 := by rw [hX]
  have hwi : X.wi = w := by rw [hX]
  have hP : X.P = Tryd.prog := by rw [hX]
  have hown : X.own = [] := by rw [hX]
  have hbl : X.base.length = 0 := by rw [hX]; rfl
  clear hX
  have hT : X.P.underlying 9 = some TypeDesc.string ∧ calleeOk X.P 140 = true := by rw [hP]; exact ⟨Tryd.underlying9, Ty.co140⟩
  repeat' (first
    | (refine SX.seqK ?_; intro N hN)
    | ((first | (refine SX.ops ?_)); simp only [GA, ↓GB, List.filterMap_cons, eq_self, BEq.rfl, simprocAttr, hnt, hT])
    | ((first | refine SX.skip ?_ | refine SX.exit ?_ | refine SX.label ?_); try simp only [GA, ↓GB, List.filterMap_cons, eq_self, BEq.rfl, simprocAttr])
    | (refine SX.cond rfl (fun hb => ?_) (fun hb => ?_) <;> ((first | cases hb | (simp only [decide_eq_true_eq, decide_eq_false_iff_not, beq_iff_eq, beq_eq_false_iff_ne, bne_iff_ne, Bool.and_eq_true, Bool.or_eq_true, Bool.not_eq_true', Bool.not_eq_false', Bool.and_eq_false_iff, Bool.or_eq_false_iff, Int.not_lt, Int.not_le] at hb) | skip) <;> (first | (exfalso; omega) | skip)))
    | (refine SX.ret ?_; try simp only [GA, ↓GB, List.filterMap_cons, eq_self, BEq.rfl, simprocAttr])
    | (refine hN _ ?_; clear hN N)
    | (refine hK _ _ (Fin.res rfl hown ?_); simp only [GA, ↓GB, List.filterMap_cons, eq_self, BEq.rfl, simprocAttr, f_a, f_b, f_n, f_c, f_B, f_v, f_g, f_0, f_1, f_2, hT, hwi]; intro w' hbel; refine Done.out ?_)
    | (clear hN N; first | (refine hN _ ?_; clear hN N) | (clear hN N; first | (refine hN _ ?_; clear hN N) | (clear hN N; first | (refine hN _ ?_; clear hN N) | (clear hN N; first | (refine hN _ ?_; clear hN N) | (clear hN N; first | (refine hN _ ?_; clear hN N) | (refine hN _ ?_; clear hN N))))))
    | (refine bif2.mk (fun hb => ?_) (fun hb => ?_) <;> (try simp only [hb, GA, ↓GB, List.filterMap_cons, eq_self, BEq.rfl, simprocAttr, hnt, hT]) <;> ((first | cases hb | (simp only [decide_eq_true_eq, decide_eq_false_iff_not, beq_iff_eq, beq_eq_false_iff_ne, bne_iff_ne, Bool.and_eq_true, Bool.or_eq_true, Bool.not_eq_true', Bool.not_eq_false', Bool.and_eq_false_iff, Bool.or_eq_false_iff, Int.not_lt, Int.not_le] at hb) | skip) <;> (first | (exfalso; omega) | skip)))
    | ((first | (refine CallVC.pv hP (trim_any _ (by omega)) rfl ?_) | (refine CallQ.pv hP (trim_any _ (by omega)) rfl ?_)); simp only [GA, ↓GB, List.filterMap_cons, eq_self, BEq.rfl, simprocAttr, hnt, hT])
    | (refine SX.block ?_)
    | (refine and_mk ?_ ?_; (focus first | decide | omega | rfl | assumption | (simp only [List.length_append, List.length_cons, List.length_nil, B_size]; omega) | (simp; done)))
    | (refine And.intro ?_ ?_))
  all_goals (try refine Done.mk ?_)
  all_goals (refine ⟨?_, hbel⟩; simp_all [nameB] <;> (intros; omega))
def keyB (t : Int) (s : List UInt8) : Bool := decide (1 ≤ t) && decide (t ≤ 5) && (s == [42] || nameB s)
theorem key_any (t : Int) (s : List UInt8) (hs : s.length ≤ 9223372036854775807) (w : World) : Calls Tryd.prog 78 #[.agg #[.int .i64 t, .string (B s)]] w fun e w' => e = .returned (.bool (keyB t s)) ∧ Below w.heap.size w w' := by
  refine calls_pureK (args := [.agg #[.int .i64 t, .string (B s)]]) w Tryd.func78 rfl Tryd.ntmps78 (by simp) ?_
  intro X K hX hK
  have hnt : X.nt = 21 := by rw [hX]
  have hwi : X.wi = w := by rw [hX]
  have hP : X.P = Tryd.prog := by rw [hX]
  have hown : X.own = [] := by rw [hX]
  have hbl : X.base.length = 0 := by rw [hX]; rfl
  clear hX
  have hT : fieldOff X.P 26 0 = some 0 ∧ aggOf X.P 3 = some false ∧ szOf X.P 3 = some 1 ∧ fieldOff X.P 26 1 = some 1 ∧ aggOf X.P 9 = some false ∧ szOf X.P 9 = some 1 ∧ calleeOk X.P 101 = true := by rw [hP]; exact ⟨Ty.fo26_0, Ty.ag3, Ty.sz3, Ty.fo26_1, Ty.ag9, Ty.sz9, Ty.co101⟩
  repeat' (first
    | (refine SX.seqK ?_; intro N hN)
    | ((first | (refine SX.ops ?_)); simp only [GA, ↓GB, List.filterMap_cons, eq_self, BEq.rfl, simprocAttr, hnt, hT])
    | ((first | refine SX.skip ?_ | refine SX.exit ?_ | refine SX.label ?_); try simp only [GA, ↓GB, List.filterMap_cons, eq_self, BEq.rfl, simprocAttr])
    | (refine SX.cond rfl (fun hb => ?_) (fun hb => ?_) <;> ((first | cases hb | (simp only [decide_eq_true_eq, decide_eq_false_iff_not, beq_iff_eq, beq_eq_false_iff_ne, bne_iff_ne, Bool.and_eq_true, Bool.or_eq_true, Bool.not_eq_true', Bool.not_eq_false', Bool.and_eq_false_iff, Bool.or_eq_false_iff, Int.not_lt, Int.not_le] at hb) | skip) <;> (first | (exfalso; omega) | skip)))
    | (refine SX.ret ?_; try simp only [GA, ↓GB, List.filterMap_cons, eq_self, BEq.rfl, simprocAttr])
    | (refine hN _ ?_; clear hN N)
    | (refine hK _ _ (Fin.res rfl hown ?_); simp only [GA, ↓GB, List.filterMap_cons, eq_self, BEq.rfl, simprocAttr, f_a, f_b, f_n, f_c, f_B, f_v, f_g, f_0, f_1, f_2, hT, hwi]; intro w' hbel; refine Done.out ?_)
    | (clear hN N; first | (refine hN _ ?_; clear hN N) | (clear hN N; first | (refine hN _ ?_; clear hN N) | (clear hN N; first | (refine hN _ ?_; clear hN N) | (clear hN N; first | (refine hN _ ?_; clear hN N) | (clear hN N; first | (refine hN _ ?_; clear hN N) | (refine hN _ ?_; clear hN N))))))
    | (refine bif2.mk (fun hb => ?_) (fun hb => ?_) <;> (try simp only [hb, GA, ↓GB, List.filterMap_cons, eq_self, BEq.rfl, simprocAttr, hnt, hT]) <;> ((first | cases hb | (simp only [decide_eq_true_eq, decide_eq_false_iff_not, beq_iff_eq, beq_eq_false_iff_ne, bne_iff_ne, Bool.and_eq_true, Bool.or_eq_true, Bool.not_eq_true', Bool.not_eq_false', Bool.and_eq_false_iff, Bool.or_eq_false_iff, Int.not_lt, Int.not_le] at hb) | skip) <;> (first | (exfalso; omega) | skip)))
    | ((first | (refine CallVC.pv hP (name_any _ hs) rfl ?_) | (refine CallQ.pv hP (name_any _ hs) rfl ?_)); simp only [GA, ↓GB, List.filterMap_cons, eq_self, BEq.rfl, simprocAttr, hnt, hT])
    | (refine SX.block ?_)
    | (refine and_mk ?_ ?_; (focus first | decide | omega | rfl | assumption | (simp only [List.length_append, List.length_cons, List.length_nil, B_size]; omega) | (simp; done)))
    | (refine And.intro ?_ ?_))
  all_goals (try refine Done.mk ?_)
  all_goals (refine ⟨?_, hbel⟩; simp_all [keyB] <;> (intros; omega))
def statusB (t : Int) (s : List UInt8) (q : Int) (ok : Bool) (d : List UInt8) : Bool := keyB t s && !(s == [42]) && decide (0 < q) && decide ((d.length : Int) ≤ 256) && (!ok || d == [])
theorem statusRight_any (t : Int) (s : List UInt8) (q : Int) (ok : Bool) (d : List UInt8) (hs : s.length ≤ 9223372036854775807) (w : World) :
    Calls Tryd.prog 64 #[.agg #[.int .i64 t, .string (B s), .int .u64 q, .bool ok, .string (B d)]] w fun e w' => e = .returned (.bool (statusB t s q ok d)) ∧ Below w.heap.size w w' := by
  refine calls_pureK (args := [.agg #[.int .i64 t, .string (B s), .int .u64 q, .bool ok, .string (B d)]]) w Tryd.func64 rfl Tryd.ntmps64 (by simp) ?_
  intro X K hX hK
  have hnt : X.nt = 33 := by rw [hX]
  have hwi : X.wi = w := by rw [hX]
  have hP : X.P = Tryd.prog := by rw [hX]
  have hown : X.own = [] := by rw [hX]
  have hbl : X.base.length = 0 := by rw [hX]; rfl
  clear hX
  have hT : fieldOff X.P 30 0 = some 0 ∧ aggOf X.P 26 = some true ∧ szOf X.P 26 = some 2 ∧ calleeOk X.P 78 = true ∧ fieldOff X.P 26 1 = some 1 ∧ aggOf X.P 9 = some false ∧ szOf X.P 9 = some 1 ∧ fieldOff X.P 30 1 = some 2 ∧ aggOf X.P 22 = some false ∧ szOf X.P 22 = some 1 ∧ fieldOff X.P 30 3 = some 4 ∧ X.P.underlying 9 = some TypeDesc.string ∧ fieldOff X.P 30 2 = some 3 ∧ aggOf X.P 4 = some false ∧ szOf X.P 4 = some 1 := by rw [hP]; exact ⟨Ty.fo30_0, Ty.ag26, Ty.sz26, Ty.co78, Ty.fo26_1, Ty.ag9, Ty.sz9, Ty.fo30_1, Ty.ag22, Ty.sz22, Ty.fo30_3, Tryd.underlying9, Ty.fo30_2, Ty.ag4, Ty.sz4⟩
  repeat' (first
    | (refine SX.seqK ?_; intro N hN)
    | ((first | (refine SX.ops ?_)); simp only [GA, ↓GB, List.filterMap_cons, eq_self, BEq.rfl, simprocAttr, hnt, hT])
    | ((first | refine SX.skip ?_ | refine SX.exit ?_ | refine SX.label ?_); try simp only [GA, ↓GB, List.filterMap_cons, eq_self, BEq.rfl, simprocAttr])
    | (refine SX.cond rfl (fun hb => ?_) (fun hb => ?_) <;> ((first | cases hb | (simp only [decide_eq_true_eq, decide_eq_false_iff_not, beq_iff_eq, beq_eq_false_iff_ne, bne_iff_ne, Bool.and_eq_true, Bool.or_eq_true, Bool.not_eq_true', Bool.not_eq_false', Bool.and_eq_false_iff, Bool.or_eq_false_iff, Int.not_lt, Int.not_le] at hb) | skip) <;> (first | (exfalso; omega) | skip)))
    | (refine SX.ret ?_; try simp only [GA, ↓GB, List.filterMap_cons, eq_self, BEq.rfl, simprocAttr])
    | (refine hN _ ?_; clear hN N)
    | (refine hK _ _ (Fin.res rfl hown ?_); simp only [GA, ↓GB, List.filterMap_cons, eq_self, BEq.rfl, simprocAttr, f_a, f_b, f_n, f_c, f_B, f_v, f_g, f_0, f_1, f_2, hT, hwi]; intro w' hbel; refine Done.out ?_)
    | (clear hN N; first | (refine hN _ ?_; clear hN N) | (clear hN N; first | (refine hN _ ?_; clear hN N) | (clear hN N; first | (refine hN _ ?_; clear hN N) | (clear hN N; first | (refine hN _ ?_; clear hN N) | (clear hN N; first | (refine hN _ ?_; clear hN N) | (refine hN _ ?_; clear hN N))))))
    | (refine bif2.mk (fun hb => ?_) (fun hb => ?_) <;> (try simp only [hb, GA, ↓GB, List.filterMap_cons, eq_self, BEq.rfl, simprocAttr, hnt, hT]) <;> ((first | cases hb | (simp only [decide_eq_true_eq, decide_eq_false_iff_not, beq_iff_eq, beq_eq_false_iff_ne, bne_iff_ne, Bool.and_eq_true, Bool.or_eq_true, Bool.not_eq_true', Bool.not_eq_false', Bool.and_eq_false_iff, Bool.or_eq_false_iff, Int.not_lt, Int.not_le] at hb) | skip) <;> (first | (exfalso; omega) | skip)))
    | ((first | (refine CallVC.pv hP (key_any _ _ hs) rfl ?_) | (refine CallQ.pv hP (key_any _ _ hs) rfl ?_)); simp only [GA, ↓GB, List.filterMap_cons, eq_self, BEq.rfl, simprocAttr, hnt, hT])
    | (refine SX.block ?_)
    | (refine and_mk ?_ ?_; (focus first | decide | omega | rfl | assumption | (simp only [List.length_append, List.length_cons, List.length_nil, B_size]; omega) | (simp; done)))
    | (refine And.intro ?_ ?_))
  all_goals (try refine Done.mk ?_)
  all_goals (refine ⟨?_, hbel⟩; simp_all [statusB] <;> (intros; omega))
end Go.Proofs.YtbdacbcpniegiaaDoor
namespace Go.Proofs.YtbdacbcpniegiaaDoor
open Go Go.RowKit Go.Proofs Go.Sx
set_option maxHeartbeats 4000000
set_option maxRecDepth 100000
set_option linter.unusedSimpArgs false
set_option linter.unusedVariables false
theorem noEscape_run {P : Program} (hP : P = Tryd.prog) (v : Value) (w : World) : (callFunc 150 #[v]).run P w = .ok (.value v) w := by
  subst hP
  rw [run_callFunc_extern Tryd.func150 (by kernel_rfl) (by kernel_rfl) (by kernel_rfl) (e := Extern.AbiNoEscape.same) (by kernel_rfl), Lib.run_noEscape]
  rfl
theorem writeByte_fresh (b : Int) : Ctr Tryd.prog [] 65 [.cells [.v (.pointer none), .v (.slice none 0 0)] 123] [.one (.c (.loc 0 0)), vv (.int .u8 b)]
    (fun os s => os = [.cells [.loc 0 0, .row 3] 123, .cells [.v (.int .u8 b)] 5, .gone, .row 5 1 1 [.int .u8 b]] ∧ s = vv .nilIface) := by
  intro X0 hP0 hG0 N0 hN0
  refine CallVC.inline (f := 65) (by rw [hP0]; exact Tryd.func65) rfl Tryd.ntmps65 rfl (by simp) ?_
  intro X K hU hnt hbl hK
  have hP : X.P = Tryd.prog := by rw [hU.P, hP0]
  have hG := hG0.under hU
  have hT : calleeOk X.P 122 = true ∧ fieldOff X.P 121 1 = some 1 ∧ aggOf X.P 58 = some false ∧ szOf X.P 58 = some 1 ∧ elemSz X.P 58 = some (5, 1) ∧ zeroCells X.P 5 = some [(Value.int IntKind.u8 0)] ∧ elemInf X.P 58 = some (5, 1, 1, (Value.int IntKind.u8 0)) ∧ isStrT X.P 58 = false := by rw [hP]; exact ⟨Ty.co122, Ty.fo121_1, Ty.ag58, Ty.sz58, Ty.el58, Ty.ze5, Ty.ei58, Ty.is58⟩
  simp only [GA, ↓GB, List.filterMap_cons, eq_self, BEq.rfl, simprocAttr] at hbl ⊢
  have hnt1 := True.intro; have hT1 := True.intro; have hU1P := True.intro
  repeat' (first
    | (refine SX.seqK ?_; intro N hN)
    | ((first | (refine SX.ops ?_)); simp only [GA, ↓GB, List.filterMap_cons, eq_self, BEq.rfl, simprocAttr, hnt, hT, hnt1, hT1, hU1P])
    | ((first | refine SX.skip ?_ | refine SX.exit ?_ | refine SX.label ?_); try simp only [GA, ↓GB, List.filterMap_cons, eq_self, BEq.rfl, simprocAttr])
    | (refine SX.cond rfl (fun hb => ?_) (fun hb => ?_) <;> ((first | cases hb | (simp only [decide_eq_true_eq, decide_eq_false_iff_not, beq_iff_eq, beq_eq_false_iff_ne, bne_iff_ne, Bool.and_eq_true, Bool.or_eq_true, Bool.not_eq_true', Bool.not_eq_false', Bool.and_eq_false_iff, Bool.or_eq_false_iff, Int.not_lt, Int.not_le] at hb) | skip) <;> (first | (exfalso; omega) | skip)))
    | (refine SX.ret ?_; try simp only [GA, ↓GB, List.filterMap_cons, eq_self, BEq.rfl, simprocAttr])
    | (refine hN _ ?_; clear hN N)
    | ((first | refine hK1 _ _ (FinI.ret3 ?_) | refine hK1 _ _ (FinI.nrm3 ?_)); (repeat (clear hN N)); clear hK1 K1; simp only [GA, ↓GB, List.filterMap_cons, eq_self, BEq.rfl, simprocAttr, finP_s, hnt, hT, hnt1, hT1, hU1P])
    | ((first | refine hK _ _ (FinI.ret3 ?_) | refine hK _ _ (FinI.nrm3 ?_)); simp only [GA, ↓GB, List.filterMap_cons, eq_self, BEq.rfl, simprocAttr, finP_s, hnt, hT, hnt1, hT1, hU1P]; refine Done.out ?_)
    | (clear hN N; first | (refine hN _ ?_; clear hN N) | (clear hN N; first | (refine hN _ ?_; clear hN N) | (clear hN N; first | (refine hN _ ?_; clear hN N) | (clear hN N; first | (refine hN _ ?_; clear hN N) | (clear hN N; first | (refine hN _ ?_; clear hN N) | (refine hN _ ?_; clear hN N))))))
    | (refine bif2.mk (fun hb => ?_) (fun hb => ?_) <;> (try simp only [hb, GA, ↓GB, List.filterMap_cons, eq_self, BEq.rfl, simprocAttr, hnt, hT, hnt1, hT1, hU1P]) <;> ((first | cases hb | (simp only [decide_eq_true_eq, decide_eq_false_iff_not, beq_iff_eq, beq_eq_false_iff_ne, bne_iff_ne, Bool.and_eq_true, Bool.or_eq_true, Bool.not_eq_true', Bool.not_eq_false', Bool.and_eq_false_iff, Bool.or_eq_false_iff, Int.not_lt, Int.not_le] at hb) | skip) <;> (first | (exfalso; omega) | skip)))
    | (refine CallVC.inline (f := 122) ?_ rfl Tryd.ntmps122 rfl ?_ ?_; (focus rw [hP]; exact Tryd.func122); (focus simp); have hT1 : fieldOff X.P 121 0 = some 0 ∧ aggOf X.P 119 = some false ∧ szOf X.P 119 = some 1 ∧ X.P.underlying 119 = some (TypeDesc.pointer 121) ∧ X.P.underlying 211 = some TypeDesc.unsafePointer ∧ isBytesT X.P 119 = false ∧ isStrT X.P 211 = false ∧ calleeOk X.P 150 = false ∧ isBytesT X.P 211 = false ∧ isStrT X.P 119 = false := (by rw [hP]; exact ⟨Ty.fo121_0, Ty.ag119, Ty.sz119, Tryd.underlying119, Tryd.underlying211, Ty.ib119, Ty.is211, Ty.cx150, Ty.ib211, Ty.is119⟩); intro X1 K1 hU1 hnt1 hbl1 hK1; have hU1P := hU1.P; simp only [GA, ↓GB, List.filterMap_cons, eq_self, BEq.rfl, simprocAttr] at hbl1 ⊢)
    | (refine VO.toUnsafe (src := 119) (t := 121) rfl (by rw [hU1P, hP]; kernel_rfl) (by rw [hU1P, hP]; kernel_rfl) (n := 1) (by rw [hU1P, hP]; kernel_rfl) rfl (by decide) ?_; simp only [GA, ↓GB, List.filterMap_cons, eq_self, BEq.rfl, simprocAttr, hnt, hnt1, hT, hT1, hU1P])
    | (refine VO.same rfl (noEscape_run (hU1P.trans hP)) ?_; simp only [GA, ↓GB, List.filterMap_cons, eq_self, BEq.rfl, simprocAttr, hnt, hnt1, hT, hT1, hU1P])
    | (refine VO.fromUnsafe (src := 211) (u := 121) rfl (by rw [hU1P, hP]; kernel_rfl) (by rw [hU1P, hP]; kernel_rfl) (n := 2) (by rw [hU1P, hP]; kernel_rfl) rfl (by rw [hU1P, hP]; kernel_rfl) ?_; simp only [GA, ↓GB, List.filterMap_cons, eq_self, BEq.rfl, simprocAttr, hnt, hnt1, hT, hT1, hU1P])
    | (refine VO.ptrNil (e := 121) rfl rfl (by rw [hU1P, hP]; kernel_rfl) ?_; simp only [GA, ↓GB, List.filterMap_cons, eq_self, BEq.rfl, simprocAttr, hnt, hnt1, hT, hT1, hU1P])
    | (refine VO.ptrSame (e := 121) (n := 2) rfl rfl (by rw [hU1P, hP]; kernel_rfl) (by rw [hU1P, hP]; kernel_rfl) ?_; simp only [GA, ↓GB, List.filterMap_cons, eq_self, BEq.rfl, simprocAttr, hnt, hnt1, hT, hT1, hU1P])
    | (refine SX.block ?_)
    | (refine and_mk ?_ ?_; (focus first | decide | omega | rfl | assumption | (simp only [List.length_append, List.length_cons, List.length_nil, B_size]; omega) | (simp; done)))
    | (refine And.intro ?_ ?_))
  all_goals (try refine Done.mk ?_)
  exact hN0 _ _ ⟨rfl, rfl⟩
theorem writeString_used (l s : List UInt8) (n : Nat) (hn : n + s.length ≤ 1152921504606) : Ctr Tryd.prog [] 123 [.cells [.loc 0 0, .row 1] 123, .row 5 1 n (bcells l)] [.one (.c (.loc 0 0)), vv (.string (B s))]
    (fun os r => os = [.cells [.loc 0 0, .row 2] 123, .gone, .row 5 1 (n + s.length) (bcells (l ++ s))] ∧ r = .tup [.c (.v (.int .i64 s.length)), .c (.v .nilIface)]) := by
  intro X0 hP0 hG0 N0 hN0
  refine CallVC.inline (f := 123) (by rw [hP0]; exact Tryd.func123) rfl Tryd.ntmps123 rfl (by simp) ?_
  intro X K hU hnt hbl hK
  have hP : X.P = Tryd.prog := by rw [hU.P, hP0]
  have hG := hG0.under hU
  have hT : calleeOk X.P 122 = true ∧ fieldOff X.P 121 1 = some 1 ∧ aggOf X.P 58 = some false ∧ szOf X.P 58 = some 1 ∧ elemInf X.P 58 = some (5, 1, 1, (Value.int IntKind.u8 0)) ∧ isStrT X.P 9 = true ∧ X.P.underlying 9 = some TypeDesc.string := by rw [hP]; exact ⟨Ty.co122, Ty.fo121_1, Ty.ag58, Ty.sz58, Ty.ei58, Ty.is9, Tryd.underlying9⟩
  simp only [GA, ↓GB, List.filterMap_cons, eq_self, BEq.rfl, simprocAttr] at hbl ⊢
  have hnt1 := True.intro; have hT1 := True.intro; have hU1P := True.intro
  repeat' (first
    | (refine SX.seqK ?_; intro N hN)
    | ((first | (refine SX.ops ?_)); simp only [GA, ↓GB, List.filterMap_cons, eq_self, BEq.rfl, simprocAttr, hnt, hT, hnt1, hT1, hU1P, bcells_append])
    | ((first | refine SX.skip ?_ | refine SX.exit ?_ | refine SX.label ?_); try simp only [GA, ↓GB, List.filterMap_cons, eq_self, BEq.rfl, simprocAttr])
    | (refine SX.cond rfl (fun hb => ?_) (fun hb => ?_) <;> ((first | cases hb | (simp only [decide_eq_true_eq, decide_eq_false_iff_not, beq_iff_eq, beq_eq_false_iff_ne, bne_iff_ne, Bool.and_eq_true, Bool.or_eq_true, Bool.not_eq_true', Bool.not_eq_false', Bool.and_eq_false_iff, Bool.or_eq_false_iff, Int.not_lt, Int.not_le] at hb) | skip) <;> (first | (exfalso; omega) | skip)))
    | (refine SX.ret ?_; try simp only [GA, ↓GB, List.filterMap_cons, eq_self, BEq.rfl, simprocAttr])
    | (refine hN _ ?_; clear hN N)
    | ((first | refine hK1 _ _ (FinI.ret3 ?_) | refine hK1 _ _ (FinI.nrm3 ?_)); (repeat (clear hN N)); clear hK1 K1; simp only [GA, ↓GB, List.filterMap_cons, eq_self, BEq.rfl, simprocAttr, finP_s, hnt, hT, hnt1, hT1, hU1P, bcells_append])
    | ((first | refine hK _ _ (FinI.ret3 ?_) | refine hK _ _ (FinI.nrm3 ?_)); simp only [GA, ↓GB, List.filterMap_cons, eq_self, BEq.rfl, simprocAttr, finP_s, hnt, hT, hnt1, hT1, hU1P, bcells_append]; refine Done.out ?_)
    | (clear hN N; first | (refine hN _ ?_; clear hN N) | (clear hN N; first | (refine hN _ ?_; clear hN N) | (clear hN N; first | (refine hN _ ?_; clear hN N) | (clear hN N; first | (refine hN _ ?_; clear hN N) | (clear hN N; first | (refine hN _ ?_; clear hN N) | (refine hN _ ?_; clear hN N))))))
    | (refine bif2.mk (fun hb => ?_) (fun hb => ?_) <;> (try simp only [hb, GA, ↓GB, List.filterMap_cons, eq_self, BEq.rfl, simprocAttr, hnt, hT, hnt1, hT1, hU1P, bcells_append]) <;> ((first | cases hb | (simp only [decide_eq_true_eq, decide_eq_false_iff_not, beq_iff_eq, beq_eq_false_iff_ne, bne_iff_ne, Bool.and_eq_true, Bool.or_eq_true, Bool.not_eq_true', Bool.not_eq_false', Bool.and_eq_false_iff, Bool.or_eq_false_iff, Int.not_lt, Int.not_le] at hb) | skip) <;> (first | (exfalso; omega) | skip)))
    | (refine CallVC.inline (f := 122) ?_ rfl Tryd.ntmps122 rfl ?_ ?_; (focus rw [hP]; exact Tryd.func122); (focus simp); have hT1 : fieldOff X.P 121 0 = some 0 ∧ aggOf X.P 119 = some false ∧ szOf X.P 119 = some 1 ∧ X.P.underlying 119 = some (TypeDesc.pointer 121) ∧ X.P.underlying 211 = some TypeDesc.unsafePointer ∧ isBytesT X.P 119 = false ∧ isStrT X.P 211 = false ∧ calleeOk X.P 150 = false ∧ isBytesT X.P 211 = false ∧ isStrT X.P 119 = false := (by rw [hP]; exact ⟨Ty.fo121_0, Ty.ag119, Ty.sz119, Tryd.underlying119, Tryd.underlying211, Ty.ib119, Ty.is211, Ty.cx150, Ty.ib211, Ty.is119⟩); intro X1 K1 hU1 hnt1 hbl1 hK1; have hU1P := hU1.P; simp only [GA, ↓GB, List.filterMap_cons, eq_self, BEq.rfl, simprocAttr] at hbl1 ⊢)
    | (refine VO.toUnsafe (src := 119) (t := 121) rfl (by rw [hU1P, hP]; kernel_rfl) (by rw [hU1P, hP]; kernel_rfl) (n := 1) (by rw [hU1P, hP]; kernel_rfl) rfl (by decide) ?_; simp only [GA, ↓GB, List.filterMap_cons, eq_self, BEq.rfl, simprocAttr, hnt, hnt1, hT, hT1, hU1P])
    | (refine VO.same rfl (noEscape_run (hU1P.trans hP)) ?_; simp only [GA, ↓GB, List.filterMap_cons, eq_self, BEq.rfl, simprocAttr, hnt, hnt1, hT, hT1, hU1P])
    | (refine VO.fromUnsafe (src := 211) (u := 121) rfl (by rw [hU1P, hP]; kernel_rfl) (by rw [hU1P, hP]; kernel_rfl) (n := 2) (by rw [hU1P, hP]; kernel_rfl) rfl (by rw [hU1P, hP]; kernel_rfl) ?_; simp only [GA, ↓GB, List.filterMap_cons, eq_self, BEq.rfl, simprocAttr, hnt, hnt1, hT, hT1, hU1P])
    | (refine VO.ptrNil (e := 121) rfl rfl (by rw [hU1P, hP]; kernel_rfl) ?_; simp only [GA, ↓GB, List.filterMap_cons, eq_self, BEq.rfl, simprocAttr, hnt, hnt1, hT, hT1, hU1P])
    | (refine VO.ptrSame (e := 121) (n := 2) rfl rfl (by rw [hU1P, hP]; kernel_rfl) (by rw [hU1P, hP]; kernel_rfl) ?_; simp only [GA, ↓GB, List.filterMap_cons, eq_self, BEq.rfl, simprocAttr, hnt, hnt1, hT, hT1, hU1P])
    | (refine SX.block ?_)
    | (refine and_mk ?_ ?_; (focus first | decide | omega | rfl | assumption | (simp only [List.length_append, List.length_cons, List.length_nil, B_size]; omega) | (simp; done)))
    | (refine And.intro ?_ ?_))
  all_goals (try refine Done.mk ?_)
  all_goals (rw [← bcells_append]; exact hN0 _ _ ⟨rfl, rfl⟩)
end Go.Proofs.YtbdacbcpniegiaaDoor
namespace Go.Proofs.YtbdacbcpniegiaaDoor
open Go Go.RowKit Go.Proofs Go.Sx
set_option maxHeartbeats 4000000
set_option maxRecDepth 100000
set_option linter.unusedSimpArgs false
set_option linter.unusedVariables false
def numB (num n : Nat) : List UInt8 := NW.varint (num * 8) ++ NW.varint n
def textB (num : Nat) (s : List UInt8) : List UInt8 := NW.varint (num * 8 + 2) ++ NW.varint s.length ++ s
theorem put_num (num n : Nat) (h1 : 1 ≤ num) (h2 : num < 536870912) (hn : n < 18446744073709551616) (w : World) :
    Calls Tryd.prog 74 #[.agg #[.int .i64 num, .int .i64 0, .int .u64 n, .string (B [])]] w fun e w' => e = .returned (.tuple #[.string (B (numB num n)), .bool true]) ∧ Below w.heap.size w w' := by
  have g1 : decide ((num : Int) < 1) = false := by simp; omega
  have g2 : decide ((536870912 : Int) ≤ num) = false := by simp; omega
  have hl1 := NW.varint_len10 (n := num * 8) (by omega)
  have hl2 := NW.varint_len10 (n := n) (by omega)
  have e1 : IntKind.u64.wrap (IntKind.i64.wrap (IntKind.i64.wrap ((num : Int) * 8) + 0)) = ((num * 8 : Nat) : Int) := by
    rw [wI64 (x := (num : Int) * 8) (by omega) (by omega), wI64 (by omega) (by omega), wU64 (by omega) (by omega)]; omega
  refine calls_pureK (args := [.agg #[.int .i64 num, .int .i64 0, .int .u64 n, .string (B [])]]) w Tryd.func74 rfl Tryd.ntmps74 (by simp) ?_
  intro X K hX hK
  have hnt : X.nt = 81 := by rw [hX]
  have hwi : X.wi = w := by rw [hX]
  have hP : X.P = Tryd.prog := by rw [hX]
  have hown : X.own = [] := by rw [hX]
  have hbl : X.base.length = 0 := by rw [hX]; rfl
  clear hX
  have hT : fieldOff X.P 143 0 = some 0 ∧ aggOf X.P 3 = some false ∧ szOf X.P 3 = some 1 ∧ fieldOff X.P 143 1 = some 1 ∧ fieldOff X.P 143 2 = some 2 ∧ aggOf X.P 22 = some false ∧ szOf X.P 22 = some 1 ∧ calleeOk X.P 127 = true ∧ mapInf X.P 174 = some ((TypeDesc.int IntKind.i64), (Value.int IntKind.i64 0)) ∧ fieldOff X.P 143 3 = some 3 ∧ aggOf X.P 9 = some false ∧ szOf X.P 9 = some 1 ∧ X.P.underlying 9 = some TypeDesc.string ∧ X.P.underlying 3 = some (TypeDesc.int IntKind.i64) ∧ X.P.underlying 22 = some (TypeDesc.int IntKind.u64) ∧ isBytesT X.P 3 = false ∧ isStrT X.P 22 = false ∧ calleeOk X.P 128 = true := by rw [hP]; exact ⟨Ty.fo143_0, Ty.ag3, Ty.sz3, Ty.fo143_1, Ty.fo143_2, Ty.ag22, Ty.sz22, Ty.co127, Ty.mi174, Ty.fo143_3, Ty.ag9, Ty.sz9, Tryd.underlying9, Tryd.underlying3, Tryd.underlying22, Ty.ib3, Ty.is22, Ty.co128⟩
  have hnt1 := True.intro; have hT1 := True.intro; have hU1P := True.intro
  repeat' (first
    | (refine SX.seqK ?_; intro N hN)
    | ((first | (refine SX.ops ?_)); simp only [GA, ↓GB, List.filterMap_cons, eq_self, BEq.rfl, simprocAttr, hnt, hT, hnt1, hT1, hU1P, g1, g2, e1])
    | ((first | refine SX.skip ?_ | refine SX.exit ?_ | refine SX.label ?_); try simp only [GA, ↓GB, List.filterMap_cons, eq_self, BEq.rfl, simprocAttr])
    | (refine SX.cond rfl (fun hb => ?_) (fun hb => ?_) <;> ((first | cases hb | (simp only [decide_eq_true_eq, decide_eq_false_iff_not, beq_iff_eq, beq_eq_false_iff_ne, bne_iff_ne, Bool.and_eq_true, Bool.or_eq_true, Bool.not_eq_true', Bool.not_eq_false', Bool.and_eq_false_iff, Bool.or_eq_false_iff, Int.not_lt, Int.not_le] at hb) | skip) <;> (first | (exfalso; omega) | skip)))
    | (refine SX.ret ?_; try simp only [GA, ↓GB, List.filterMap_cons, eq_self, BEq.rfl, simprocAttr])
    | (refine hN _ ?_; clear hN N)
    | ((first | refine hK1 _ _ (FinI.ret3 ?_) | refine hK1 _ _ (FinI.nrm3 ?_)); (repeat (clear hN N)); clear hK1 K1; simp only [GA, ↓GB, List.filterMap_cons, eq_self, BEq.rfl, simprocAttr, finP_s, hnt, hT, hnt1, hT1, hU1P, g1, g2, e1])
    | (refine hK _ _ (Fin.res rfl hown ?_); simp only [GA, ↓GB, List.filterMap_cons, eq_self, BEq.rfl, simprocAttr, f_a, f_b, f_n, f_c, f_B, f_v, f_g, f_0, f_1, f_2, hT, hwi, hnt1, hT1, hU1P, g1, g2, e1]; intro w' hbel; refine Done.out ?_)
    | (clear hN N; first | (refine hN _ ?_; clear hN N) | (clear hN N; first | (refine hN _ ?_; clear hN N) | (clear hN N; first | (refine hN _ ?_; clear hN N) | (clear hN N; first | (refine hN _ ?_; clear hN N) | (clear hN N; first | (refine hN _ ?_; clear hN N) | (refine hN _ ?_; clear hN N))))))
    | (refine bif2.mk (fun hb => ?_) (fun hb => ?_) <;> (try simp only [hb, GA, ↓GB, List.filterMap_cons, eq_self, BEq.rfl, simprocAttr, hnt, hT, hnt1, hT1, hU1P, g1, g2, e1]) <;> ((first | cases hb | (simp only [decide_eq_true_eq, decide_eq_false_iff_not, beq_iff_eq, beq_eq_false_iff_ne, bne_iff_ne, Bool.and_eq_true, Bool.or_eq_true, Bool.not_eq_true', Bool.not_eq_false', Bool.and_eq_false_iff, Bool.or_eq_false_iff, Int.not_lt, Int.not_le] at hb) | skip) <;> (first | (exfalso; omega) | skip)))
    | ((first | (refine CallVC.pv hP (varint_any (num * 8) (by omega)) rfl ?_) | (refine CallQ.pv hP (varint_any (num * 8) (by omega)) rfl ?_) | (refine CallVC.pv hP (varint_any n hn) rfl ?_) | (refine CallQ.pv hP (varint_any n hn) rfl ?_)); simp only [GA, ↓GB, List.filterMap_cons, eq_self, BEq.rfl, simprocAttr, hnt, hT, hnt1, hT1, hU1P, g1, g2, e1])
    | (refine CallVC.inline (f := 127) ?_ rfl Tryd.ntmps127 rfl ?_ ?_; (focus rw [hP]; exact Tryd.func127); (focus simp); have hT1 : mapInf X.P 174 = some ((TypeDesc.int IntKind.i64), (Value.int IntKind.i64 0)) := (by rw [hP]; exact Ty.mi174); intro X1 K1 hU1 hnt1 hbl1 hK1; have hU1P := hU1.P; simp only [GA, ↓GB, List.filterMap_cons, eq_self, BEq.rfl, simprocAttr] at hbl1 ⊢)
    | ((first | (refine CallVC.pv (hU1P.trans hP) (varint_any (num * 8) (by omega)) rfl ?_) | (refine CallQ.pv (hU1P.trans hP) (varint_any (num * 8) (by omega)) rfl ?_) | (refine CallVC.pv (hU1P.trans hP) (varint_any n hn) rfl ?_) | (refine CallQ.pv (hU1P.trans hP) (varint_any n hn) rfl ?_)); simp only [GA, ↓GB, List.filterMap_cons, eq_self, BEq.rfl, simprocAttr, hnt, hT, hnt1, hT1, hU1P, g1, g2, e1])
    | (refine SX.block ?_)
    | (refine and_mk ?_ ?_; (focus first | decide | omega | rfl | assumption | (simp only [List.length_append, List.length_cons, List.length_nil, B_size]; omega) | (simp; done)))
    | (refine And.intro ?_ ?_))
  all_goals (try refine Done.mk ?_)
  all_goals first | exact hbel | exact ⟨by simp [numB], hbel⟩
theorem put_text (num : Nat) (s : List UInt8) (h1 : 1 ≤ num) (h2 : num < 536870912) (hs : s.length < 1152921504606846976) (w : World) :
    Calls Tryd.prog 74 #[.agg #[.int .i64 num, .int .i64 2, .int .u64 0, .string (B s)]] w fun e w' => e = .returned (.tuple #[.string (B (textB num s)), .bool true]) ∧ Below w.heap.size w w' := by
  have g1 : decide ((num : Int) < 1) = false := by simp; omega
  have g2 : decide ((536870912 : Int) ≤ num) = false := by simp; omega
  have hl1 := NW.varint_len10 (n := num * 8 + 2) (by omega)
  have hl2 := NW.varint_len10 (n := s.length) (by omega)
  have e1 : IntKind.u64.wrap (IntKind.i64.wrap (IntKind.i64.wrap ((num : Int) * 8) + 2)) = ((num * 8 + 2 : Nat) : Int) := by
    rw [wI64 (x := (num : Int) * 8) (by omega) (by omega), wI64 (by omega) (by omega), wU64 (by omega) (by omega)]; omega
  have e2 : IntKind.u64.wrap (s.length : Int) = (s.length : Int) := wU64 (by omega) (by omega)
  refine calls_pureK (args := [.agg #[.int .i64 num, .int .i64 2, .int .u64 0, .string (B s)]]) w Tryd.func74 rfl Tryd.ntmps74 (by simp) ?_
  intro X K hX hK
  have hnt : X.nt = 81 := by rw [hX]
  have hwi : X.wi = w := by rw [hX]
  have hP : X.P = Tryd.prog := by rw [hX]
  have hown : X.own = [] := by rw [hX]
  have hbl : X.base.length = 0 := by rw [hX]; rfl
  clear hX
  have hT : fieldOff X.P 143 0 = some 0 ∧ aggOf X.P 3 = some false ∧ szOf X.P 3 = some 1 ∧ fieldOff X.P 143 1 = some 1 ∧ fieldOff X.P 143 2 = some 2 ∧ aggOf X.P 22 = some false ∧ szOf X.P 22 = some 1 ∧ calleeOk X.P 127 = true ∧ mapInf X.P 174 = some ((TypeDesc.int IntKind.i64), (Value.int IntKind.i64 0)) ∧ fieldOff X.P 143 3 = some 3 ∧ aggOf X.P 9 = some false ∧ szOf X.P 9 = some 1 ∧ X.P.underlying 9 = some TypeDesc.string ∧ X.P.underlying 3 = some (TypeDesc.int IntKind.i64) ∧ X.P.underlying 22 = some (TypeDesc.int IntKind.u64) ∧ isBytesT X.P 3 = false ∧ isStrT X.P 22 = false ∧ calleeOk X.P 128 = true := by rw [hP]; exact ⟨Ty.fo143_0, Ty.ag3, Ty.sz3, Ty.fo143_1, Ty.fo143_2, Ty.ag22, Ty.sz22, Ty.co127, Ty.mi174, Ty.fo143_3, Ty.ag9, Ty.sz9, Tryd.underlying9, Tryd.underlying3, Tryd.underlying22, Ty.ib3, Ty.is22, Ty.co128⟩
  have hnt1 := True.intro; have hT1 := True.intro; have hU1P := True.intro
  repeat' (first
    | (refine SX.seqK ?_; intro N hN)
    | ((first | (refine SX.ops ?_)); simp only [GA, ↓GB, List.filterMap_cons, eq_self, BEq.rfl, simprocAttr, hnt, hT, hnt1, hT1, hU1P, g1, g2, e1, e2])
    | ((first | refine SX.skip ?_ | refine SX.exit ?_ | refine SX.label ?_); try simp only [GA, ↓GB, List.filterMap_cons, eq_self, BEq.rfl, simprocAttr])
    | (refine SX.cond rfl (fun hb => ?_) (fun hb => ?_) <;> ((first | cases hb | (simp only [decide_eq_true_eq, decide_eq_false_iff_not, beq_iff_eq, beq_eq_false_iff_ne, bne_iff_ne, Bool.and_eq_true, Bool.or_eq_true, Bool.not_eq_true', Bool.not_eq_false', Bool.and_eq_false_iff, Bool.or_eq_false_iff, Int.not_lt, Int.not_le] at hb) | skip) <;> (first | (exfalso; omega) | skip)))
    | (refine SX.ret ?_; try simp only [GA, ↓GB, List.filterMap_cons, eq_self, BEq.rfl, simprocAttr])
    | (refine hN _ ?_; clear hN N)
    | ((first | refine hK1 _ _ (FinI.ret3 ?_) | refine hK1 _ _ (FinI.nrm3 ?_)); (repeat (clear hN N)); clear hK1 K1; simp only [GA, ↓GB, List.filterMap_cons, eq_self, BEq.rfl, simprocAttr, finP_s, hnt, hT, hnt1, hT1, hU1P, g1, g2, e1, e2])
    | (refine hK _ _ (Fin.res rfl hown ?_); simp only [GA, ↓GB, List.filterMap_cons, eq_self, BEq.rfl, simprocAttr, f_a, f_b, f_n, f_c, f_B, f_v, f_g, f_0, f_1, f_2, hT, hwi, hnt1, hT1, hU1P, g1, g2, e1, e2]; intro w' hbel; refine Done.out ?_)
    | (clear hN N; first | (refine hN _ ?_; clear hN N) | (clear hN N; first | (refine hN _ ?_; clear hN N) | (clear hN N; first | (refine hN _ ?_; clear hN N) | (clear hN N; first | (refine hN _ ?_; clear hN N) | (clear hN N; first | (refine hN _ ?_; clear hN N) | (refine hN _ ?_; clear hN N))))))
    | (refine bif2.mk (fun hb => ?_) (fun hb => ?_) <;> (try simp only [hb, GA, ↓GB, List.filterMap_cons, eq_self, BEq.rfl, simprocAttr, hnt, hT, hnt1, hT1, hU1P, g1, g2, e1, e2]) <;> ((first | cases hb | (simp only [decide_eq_true_eq, decide_eq_false_iff_not, beq_iff_eq, beq_eq_false_iff_ne, bne_iff_ne, Bool.and_eq_true, Bool.or_eq_true, Bool.not_eq_true', Bool.not_eq_false', Bool.and_eq_false_iff, Bool.or_eq_false_iff, Int.not_lt, Int.not_le] at hb) | skip) <;> (first | (exfalso; omega) | skip)))
    | ((first | (refine CallVC.pv hP (varint_any (num * 8 + 2) (by omega)) rfl ?_) | (refine CallQ.pv hP (varint_any (num * 8 + 2) (by omega)) rfl ?_) | (refine CallVC.pv hP (varint_any s.length (by omega)) rfl ?_) | (refine CallQ.pv hP (varint_any s.length (by omega)) rfl ?_)); simp only [GA, ↓GB, List.filterMap_cons, eq_self, BEq.rfl, simprocAttr, hnt, hT, hnt1, hT1, hU1P, g1, g2, e1, e2])
    | (refine CallVC.inline (f := 127) ?_ rfl Tryd.ntmps127 rfl ?_ ?_; (focus rw [hP]; exact Tryd.func127); (focus simp); have hT1 : mapInf X.P 174 = some ((TypeDesc.int IntKind.i64), (Value.int IntKind.i64 0)) := (by rw [hP]; exact Ty.mi174); intro X1 K1 hU1 hnt1 hbl1 hK1; have hU1P := hU1.P; simp only [GA, ↓GB, List.filterMap_cons, eq_self, BEq.rfl, simprocAttr] at hbl1 ⊢)
    | ((first | (refine CallVC.pv (hU1P.trans hP) (varint_any (num * 8 + 2) (by omega)) rfl ?_) | (refine CallQ.pv (hU1P.trans hP) (varint_any (num * 8 + 2) (by omega)) rfl ?_) | (refine CallVC.pv (hU1P.trans hP) (varint_any s.length (by omega)) rfl ?_) | (refine CallQ.pv (hU1P.trans hP) (varint_any s.length (by omega)) rfl ?_)); simp only [GA, ↓GB, List.filterMap_cons, eq_self, BEq.rfl, simprocAttr, hnt, hT, hnt1, hT1, hU1P, g1, g2, e1, e2])
    | (refine SX.block ?_)
    | (refine and_mk ?_ ?_; (focus first | decide | omega | rfl | assumption | (simp only [List.length_append, List.length_cons, List.length_nil, B_size]; omega) | (simp; done)))
    | (refine And.intro ?_ ?_))
  all_goals (try refine Done.mk ?_)
  all_goals first | exact hbel | exact ⟨by simp [textB], hbel⟩
theorem number_any (num n : Nat) (h1 : 1 ≤ num) (h2 : num < 536870912) (hn : n < 18446744073709551616) (w : World) :
    Calls Tryd.prog 23 #[.int .i64 num, .int .u64 n] w fun e w' => e = .returned (.string (B (numB num n))) ∧ Below w.heap.size w w' := by
  refine calls_pureK (args := [.int .i64 num, .int .u64 n]) w Tryd.func23 rfl Tryd.ntmps23 (by simp) ?_
  intro X K hX hK
  have hnt : X.nt = 15 := by rw [hX]
  have hwi : X.wi = w := by rw [hX]
  have hP : X.P = Tryd.prog := by rw [hX]
  have hown : X.own = [] := by rw [hX]
  have hbl : X.base.length = 0 := by rw [hX]; rfl
  clear hX
  have hT : fieldsOf X.P 143 = some [(0, 1), (1, 1), (2, 1), (3, 1)] ∧ zeroCells X.P 143 = some [(Value.int IntKind.i64 0), (Value.int IntKind.i64 0), (Value.int IntKind.u64 0), (Value.string { data := #[] })] ∧ calleeOk X.P 74 = true := by rw [hP]; exact ⟨Ty.fs143, Ty.ze143, Ty.co74⟩
  repeat' (first
    | (refine SX.seqK ?_; intro N hN)
    | ((first | (refine SX.ops ?_)); simp only [GA, ↓GB, List.filterMap_cons, eq_self, BEq.rfl, simprocAttr, hnt, hT])
    | ((first | refine SX.skip ?_ | refine SX.exit ?_ | refine SX.label ?_); try simp only [GA, ↓GB, List.filterMap_cons, eq_self, BEq.rfl, simprocAttr])
    | (refine SX.cond rfl (fun hb => ?_) (fun hb => ?_) <;> ((first | cases hb | (simp only [decide_eq_true_eq, decide_eq_false_iff_not, beq_iff_eq, beq_eq_false_iff_ne, bne_iff_ne, Bool.and_eq_true, Bool.or_eq_true, Bool.not_eq_true', Bool.not_eq_false', Bool.and_eq_false_iff, Bool.or_eq_false_iff, Int.not_lt, Int.not_le] at hb) | skip) <;> (first | (exfalso; omega) | skip)))
    | (refine SX.ret ?_; try simp only [GA, ↓GB, List.filterMap_cons, eq_self, BEq.rfl, simprocAttr])
    | (refine hN _ ?_; clear hN N)
    | (refine hK _ _ (Fin.res rfl hown ?_); simp only [GA, ↓GB, List.filterMap_cons, eq_self, BEq.rfl, simprocAttr, f_a, f_b, f_n, f_c, f_B, f_v, f_g, f_0, f_1, f_2, hT, hwi]; intro w' hbel; refine Done.out ?_)
    | (clear hN N; first | (refine hN _ ?_; clear hN N) | (clear hN N; first | (refine hN _ ?_; clear hN N) | (clear hN N; first | (refine hN _ ?_; clear hN N) | (clear hN N; first | (refine hN _ ?_; clear hN N) | (clear hN N; first | (refine hN _ ?_; clear hN N) | (refine hN _ ?_; clear hN N))))))
    | (refine bif2.mk (fun hb => ?_) (fun hb => ?_) <;> (try simp only [hb, GA, ↓GB, List.filterMap_cons, eq_self, BEq.rfl, simprocAttr, hnt, hT]) <;> ((first | cases hb | (simp only [decide_eq_true_eq, decide_eq_false_iff_not, beq_iff_eq, beq_eq_false_iff_ne, bne_iff_ne, Bool.and_eq_true, Bool.or_eq_true, Bool.not_eq_true', Bool.not_eq_false', Bool.and_eq_false_iff, Bool.or_eq_false_iff, Int.not_lt, Int.not_le] at hb) | skip) <;> (first | (exfalso; omega) | skip)))
    | ((first | (refine CallVC.pt (l := [_, _]) hP (put_num num n h1 h2 hn) rfl ?_) | (refine CallQ.pt (l := [_, _]) hP (put_num num n h1 h2 hn) rfl ?_)); simp only [GA, ↓GB, List.filterMap_cons, eq_self, BEq.rfl, simprocAttr, hnt, hT])
    | (refine SX.block ?_)
    | (refine and_mk ?_ ?_; (focus first | decide | omega | rfl | assumption | (simp only [List.length_append, List.length_cons, List.length_nil, B_size]; omega) | (simp; done)))
    | (refine And.intro ?_ ?_))
  all_goals (try refine Done.mk ?_)
  all_goals first | exact hbel | exact ⟨rfl, hbel⟩
theorem text_any (num : Nat) (s : List UInt8) (h1 : 1 ≤ num) (h2 : num < 536870912) (hs : s.length < 1152921504606846976) (w : World) :
    Calls Tryd.prog 104 #[.int .i64 num, .string (B s)] w fun e w' => e = .returned (.string (B (textB num s))) ∧ Below w.heap.size w w' := by
  refine calls_pureK (args := [.int .i64 num, .string (B s)]) w Tryd.func104 rfl Tryd.ntmps104 (by simp) ?_
  intro X K hX hK
  have hnt : X.nt = 13 := by rw [hX]
  have hwi : X.wi = w := by rw [hX]
  have hP : X.P = Tryd.prog := by rw [hX]
  have hown : X.own = [] := by rw [hX]
  have hbl : X.base.length = 0 := by rw [hX]; rfl
  clear hX
  have hT : fieldsOf X.P 143 = some [(0, 1), (1, 1), (2, 1), (3, 1)] ∧ zeroCells X.P 143 = some [(Value.int IntKind.i64 0), (Value.int IntKind.i64 0), (Value.int IntKind.u64 0), (Value.string { data := #[] })] ∧ calleeOk X.P 74 = true := by rw [hP]; exact ⟨Ty.fs143, Ty.ze143, Ty.co74⟩
  repeat' (first
    | (refine SX.seqK ?_; intro N hN)
    | ((first | (refine SX.ops ?_)); simp only [GA, ↓GB, List.filterMap_cons, eq_self, BEq.rfl, simprocAttr, hnt, hT])
    | ((first | refine SX.skip ?_ | refine SX.exit ?_ | refine SX.label ?_); try simp only [GA, ↓GB, List.filterMap_cons, eq_self, BEq.rfl, simprocAttr])
    | (refine SX.cond rfl (fun hb => ?_) (fun hb => ?_) <;> ((first | cases hb | (simp only [decide_eq_true_eq, decide_eq_false_iff_not, beq_iff_eq, beq_eq_false_iff_ne, bne_iff_ne, Bool.and_eq_true, Bool.or_eq_true, Bool.not_eq_true', Bool.not_eq_false', Bool.and_eq_false_iff, Bool.or_eq_false_iff, Int.not_lt, Int.not_le] at hb) | skip) <;> (first | (exfalso; omega) | skip)))
    | (refine SX.ret ?_; try simp only [GA, ↓GB, List.filterMap_cons, eq_self, BEq.rfl, simprocAttr])
    | (refine hN _ ?_; clear hN N)
    | (refine hK _ _ (Fin.res rfl hown ?_); simp only [GA, ↓GB, List.filterMap_cons, eq_self, BEq.rfl, simprocAttr, f_a, f_b, f_n, f_c, f_B, f_v, f_g, f_0, f_1, f_2, hT, hwi]; intro w' hbel; refine Done.out ?_)
    | (clear hN N; first | (refine hN _ ?_; clear hN N) | (clear hN N; first | (refine hN _ ?_; clear hN N) | (clear hN N; first | (refine hN _ ?_; clear hN N) | (clear hN N; first | (refine hN _ ?_; clear hN N) | (clear hN N; first | (refine hN _ ?_; clear hN N) | (refine hN _ ?_; clear hN N))))))
    | (refine bif2.mk (fun hb => ?_) (fun hb => ?_) <;> (try simp only [hb, GA, ↓GB, List.filterMap_cons, eq_self, BEq.rfl, simprocAttr, hnt, hT]) <;> ((first | cases hb | (simp only [decide_eq_true_eq, decide_eq_false_iff_not, beq_iff_eq, beq_eq_false_iff_ne, bne_iff_ne, Bool.and_eq_true, Bool.or_eq_true, Bool.not_eq_true', Bool.not_eq_false', Bool.and_eq_false_iff, Bool.or_eq_false_iff, Int.not_lt, Int.not_le] at hb) | skip) <;> (first | (exfalso; omega) | skip)))
    | ((first | (refine CallVC.pt (l := [_, _]) hP (put_text num s h1 h2 hs) rfl ?_) | (refine CallQ.pt (l := [_, _]) hP (put_text num s h1 h2 hs) rfl ?_)); simp only [GA, ↓GB, List.filterMap_cons, eq_self, BEq.rfl, simprocAttr, hnt, hT])
    | (refine SX.block ?_)
    | (refine and_mk ?_ ?_; (focus first | decide | omega | rfl | assumption | (simp only [List.length_append, List.length_cons, List.length_nil, B_size]; omega) | (simp; done)))
    | (refine And.intro ?_ ?_))
  all_goals (try refine Done.mk ?_)
  all_goals first | exact hbel | exact ⟨rfl, hbel⟩
end Go.Proofs.YtbdacbcpniegiaaDoor
namespace Go.Proofs.YtbdacbcpniegiaaDoor
open Go Go.RowKit Go.Proofs Go.Sx
set_option maxHeartbeats 4000000
set_option maxRecDepth 100000
set_option linter.unusedSimpArgs false
set_option linter.unusedVariables false
abbrev bldr (l : List UInt8) : List LO := [.cells [.loc 0 0, .row 1] 123, .row 5 1 l.length (bcells l)]
abbrev bldr' (l : List UInt8) : List LO := [.cells [.loc 0 0, .row 2] 123, .gone, .row 5 1 l.length (bcells l)]
theorem writeString_ctr (l s : List UInt8) (hn : l.length + s.length ≤ 1152921504606) : Ctr Tryd.prog [] 123 (bldr l) [.one (.c (.loc 0 0)), vv (.string (B s))]
    (fun os r => os = bldr' (l ++ s) ∧ r = .tup [.c (.v (.int .i64 s.length)), .c (.v .nilIface)]) :=
  (writeString_used l s l.length hn).mono (fun os r h => ⟨by rw [h.1]; simp, h.2⟩)
theorem string_ctr (l : List UInt8) (h0 : 0 < l.length) (hn : l.length ≤ 1152921504606) : Ctr Tryd.prog [] 69 (bldr l) [.one (.c (.loc 0 0))]
    (fun os r => os = [.cells [.loc 0 0, .row 1] 123, .gone] ∧ r = vv (.string (B l))) := by
  intro X0 hP0 hG0 N0 hN0
  refine CallVC.inline (f := 69) (by rw [hP0]; exact Tryd.func69) rfl Tryd.ntmps69 rfl (by simp) ?_
  intro X K hU hnt hbl hK
  have hP : X.P = Tryd.prog := by rw [hU.P, hP0]
  have hG := hG0.under hU
  have hT : fieldOff X.P 121 1 = some 1 ∧ aggOf X.P 58 = some false ∧ szOf X.P 58 = some 1 ∧ X.P.underlying 58 = some (TypeDesc.slice 5) := by rw [hP]; exact ⟨Ty.fo121_1, Ty.ag58, Ty.sz58, Tryd.underlying58⟩
  simp only [GA, ↓GB, List.filterMap_cons, eq_self, BEq.rfl, simprocAttr] at hbl ⊢
  repeat' (first
    | (refine SX.seqK ?_; intro N hN)
    | ((first | (refine SX.ops ?_) | (refine SX.planT (id := 1) [.q [(0, [0]), (1, [3]), (2, [4]), (3, [5]), (4, [6]), (5, [0]), (6, [8]), (7, [9]), (8, [10]), (9, [11])] none, .s 10, .s 11] ?_ ?_ ?_; (focus first | (rw [hP]; kernel_rfl) | (rw [hU1P, hP]; kernel_rfl)); (focus kernel_rfl))); simp only [GA, ↓GB, List.filterMap_cons, eq_self, BEq.rfl, simprocAttr, hnt, hT])
    | ((first | refine SX.skip ?_ | refine SX.exit ?_ | refine SX.label ?_); try simp only [GA, ↓GB, List.filterMap_cons, eq_self, BEq.rfl, simprocAttr])
    | (refine SX.cond rfl (fun hb => ?_) (fun hb => ?_) <;> ((first | cases hb | (simp only [decide_eq_true_eq, decide_eq_false_iff_not, beq_iff_eq, beq_eq_false_iff_ne, bne_iff_ne, Bool.and_eq_true, Bool.or_eq_true, Bool.not_eq_true', Bool.not_eq_false', Bool.and_eq_false_iff, Bool.or_eq_false_iff, Int.not_lt, Int.not_le] at hb) | skip) <;> (first | (exfalso; omega) | skip)))
    | (refine SX.ret ?_; try simp only [GA, ↓GB, List.filterMap_cons, eq_self, BEq.rfl, simprocAttr])
    | (refine hN _ ?_; clear hN N)
    | ((first | refine hK _ _ (FinI.ret3 ?_) | refine hK _ _ (FinI.nrm3 ?_)); simp only [GA, ↓GB, List.filterMap_cons, eq_self, BEq.rfl, simprocAttr, finP_s, hnt, hT]; refine Done.out ?_)
    | (clear hN N; first | (refine hN _ ?_; clear hN N) | (clear hN N; first | (refine hN _ ?_; clear hN N) | (clear hN N; first | (refine hN _ ?_; clear hN N) | (clear hN N; first | (refine hN _ ?_; clear hN N) | (clear hN N; first | (refine hN _ ?_; clear hN N) | (refine hN _ ?_; clear hN N))))))
    | (refine bif2.mk (fun hb => ?_) (fun hb => ?_) <;> (try simp only [hb, GA, ↓GB, List.filterMap_cons, eq_self, BEq.rfl, simprocAttr, hnt, hT]) <;> ((first | cases hb | (simp only [decide_eq_true_eq, decide_eq_false_iff_not, beq_iff_eq, beq_eq_false_iff_ne, bne_iff_ne, Bool.and_eq_true, Bool.or_eq_true, Bool.not_eq_true', Bool.not_eq_false', Bool.and_eq_false_iff, Bool.or_eq_false_iff, Int.not_lt, Int.not_le] at hb) | skip) <;> (first | (exfalso; omega) | skip)))
    | (show VO X _ _ _; refine VO.unsafeString (k := .i64) (l := l) (pt := 192) (e := 5) rfl rfl rfl (by rw [hP]; kernel_rfl) (by rw [hP]; kernel_rfl) (by intro e; subst e; simp at h0) (by omega) ?_; simp only [GA, ↓GB, List.filterMap_cons, eq_self, BEq.rfl, simprocAttr, hnt, hT])
    | (refine SX.block ?_)
    | (refine and_mk ?_ ?_; (focus first | decide | omega | rfl | assumption | (simp only [List.length_append, List.length_cons, List.length_nil, B_size]; omega) | (simp; done)))
    | (refine And.intro ?_ ?_))
  all_goals (try refine Done.mk ?_)
  exact hN0 _ _ ⟨rfl, rfl⟩
theorem wnumber_ctr (l : List UInt8) (num n : Nat) (h1 : 1 ≤ num) (h2 : num < 536870912) (h0 : 0 < n) (hn : n < 18446744073709551616) (hl : l.length ≤ 1152921504000) :
    Ctr Tryd.prog [] 66 (bldr l) [.one (.c (.loc 0 0)), vv (.int .i64 num), vv (.int .u64 n)]
    (fun os r => os = bldr' (l ++ numB num n) ∧ r = .tup []) := by
  have g0 : decide ((0 : Int) < n) = true := by simp; omega
  have hl1 := NW.varint_len10 (n := num * 8) (by omega)
  have hl2 := NW.varint_len10 (n := n) (by omega)
  have hlen : l.length + (numB num n).length ≤ 1152921504606 := by simp [numB]; omega
  intro X0 hP0 hG0 N0 hN0
  refine CallVC.inline (f := 66) (by rw [hP0]; exact Tryd.func66) rfl Tryd.ntmps66 rfl (by simp) ?_
  intro X K hU hnt hbl hK
  have hP : X.P = Tryd.prog := by rw [hU.P, hP0]
  have hG := hG0.under hU
  have hT : fieldOff X.P 123 0 = some 0 ∧ calleeOk X.P 23 = true ∧ calleeOk X.P 123 = true := by rw [hP]; exact ⟨Ty.fo123_0, Ty.co23, Ty.co123⟩
  simp only [GA, ↓GB, List.filterMap_cons, eq_self, BEq.rfl, simprocAttr] at hbl ⊢
  repeat' (first
    | (refine SX.seqK ?_; intro N hN)
    | ((first | (refine SX.ops ?_) | (refine SX.planT (id := 1) [.q [(0, [0]), (1, [8]), (2, [9]), (3, [1]), (4, [2]), (5, [11, 12])] none, .s 6] ?_ ?_ ?_; (focus first | (rw [hP]; kernel_rfl) | (rw [hU1P, hP]; kernel_rfl)); (focus kernel_rfl))); simp only [GA, ↓GB, List.filterMap_cons, eq_self, BEq.rfl, simprocAttr, hnt, hT, g0])
    | ((first | refine SX.skip ?_ | refine SX.exit ?_ | refine SX.label ?_); try simp only [GA, ↓GB, List.filterMap_cons, eq_self, BEq.rfl, simprocAttr])
    | (refine SX.cond rfl (fun hb => ?_) (fun hb => ?_) <;> ((first | cases hb | (simp only [decide_eq_true_eq, decide_eq_false_iff_not, beq_iff_eq, beq_eq_false_iff_ne, bne_iff_ne, Bool.and_eq_true, Bool.or_eq_true, Bool.not_eq_true', Bool.not_eq_false', Bool.and_eq_false_iff, Bool.or_eq_false_iff, Int.not_lt, Int.not_le] at hb) | skip) <;> (first | (exfalso; omega) | skip)))
    | (refine SX.ret ?_; try simp only [GA, ↓GB, List.filterMap_cons, eq_self, BEq.rfl, simprocAttr])
    | (refine hN _ ?_; clear hN N)
    | ((first | refine hK _ _ (FinI.ret3 ?_) | refine hK _ _ (FinI.nrm3 ?_)); simp only [GA, ↓GB, List.filterMap_cons, eq_self, BEq.rfl, simprocAttr, finP_s, hnt, hT, g0]; refine Done.out ?_)
    | (clear hN N; first | (refine hN _ ?_; clear hN N) | (clear hN N; first | (refine hN _ ?_; clear hN N) | (clear hN N; first | (refine hN _ ?_; clear hN N) | (clear hN N; first | (refine hN _ ?_; clear hN N) | (clear hN N; first | (refine hN _ ?_; clear hN N) | (refine hN _ ?_; clear hN N))))))
    | (refine bif2.mk (fun hb => ?_) (fun hb => ?_) <;> (try simp only [hb, GA, ↓GB, List.filterMap_cons, eq_self, BEq.rfl, simprocAttr, hnt, hT, g0]) <;> ((first | cases hb | (simp only [decide_eq_true_eq, decide_eq_false_iff_not, beq_iff_eq, beq_eq_false_iff_ne, bne_iff_ne, Bool.and_eq_true, Bool.or_eq_true, Bool.not_eq_true', Bool.not_eq_false', Bool.and_eq_false_iff, Bool.or_eq_false_iff, Int.not_lt, Int.not_le] at hb) | skip) <;> (first | (exfalso; omega) | skip)))
    | ((first | (refine CallVC.pv hP (number_any num n h1 h2 hn) rfl ?_) | (refine CallQ.pv hP (number_any num n h1 h2 hn) rfl ?_) | (refine Ctr.use (writeString_ctr l (numB num n) hlen) hP ?_ [0,1] ?_ rfl rfl ?_; (focus (intro p hp; cases hp)); (focus (refine LeR.of rfl trivial ?_ ?_ ?_ ?_ ?_ <;> first | decide | (simp only [GA, ↓GB, List.filterMap_cons, eq_self, BEq.rfl, simprocAttr, List.getD_cons_zero, List.getD_cons_succ, or_false, false_or, or_self, or_true, true_or, decide_true]; done))); intro os' s hR; obtain ⟨rfl, rfl⟩ := hR)); simp only [GA, ↓GB, List.filterMap_cons, eq_self, BEq.rfl, simprocAttr, hnt, hT, g0])
    | (refine SX.block ?_)
    | (refine and_mk ?_ ?_; (focus first | decide | omega | rfl | assumption | (simp only [List.length_append, List.length_cons, List.length_nil, B_size]; omega) | (simp; done)))
    | (refine And.intro ?_ ?_))
  all_goals (try refine Done.mk ?_)
  all_goals exact hN0 _ _ ⟨rfl, rfl⟩
end Go.Proofs.YtbdacbcpniegiaaDoor
namespace Go.Proofs.YtbdacbcpniegiaaDoor
open Go Go.RowKit Go.Proofs Go.Sx
set_option maxHeartbeats 4000000
set_option maxRecDepth 100000
set_option linter.unusedSimpArgs false
set_option linter.unusedVariables false
theorem writeByte_ctr (b : UInt8) : Ctr Tryd.prog [] 65 [.cells [.v (.pointer none), .v (.slice none 0 0)] 123] [.one (.c (.loc 0 0)), vv (.int .u8 b.toNat)]
    (fun os s => os = [.cells [.loc 0 0, .row 3] 123, .cells [.v (.int .u8 b.toNat)] 5, .gone, .row 5 1 [b].length (bcells [b])] ∧ s = vv .nilIface) :=
  (writeByte_fresh b.toNat).mono (fun os r h => ⟨by rw [h.1]; rfl, h.2⟩)
theorem wlist1_ctr (l s : List UInt8) (num : Nat) (h1 : 1 ≤ num) (h2 : num < 536870912) (hs : s.length < 4294967296) (hl : l.length ≤ 1148000000000) :
    Ctr Tryd.prog [] 67 (bldr l ++ [.cells [.v (.string (B s))] 9]) [.one (.c (.loc 0 0)), vv (.int .i64 num), .one (.c (.sl 2 0 1 1))]
    (fun os r => os = [.cells [.loc 0 0, .row 3] 123, .gone, .cells [.v (.string (B s))] 9, .row 5 1 (l ++ textB num s).length (bcells (l ++ textB num s))] ∧ r = .tup []) := by
  have hl1 := NW.varint_len10 (n := num * 8 + 2) (by omega)
  have hl2 := NW.varint_len10 (n := s.length) (by omega)
  have hlen : l.length + (textB num s).length ≤ 1152921504606 := by simp [textB]; omega
  intro X0 hP0 hG0 N0 hN0
  refine CallVC.inline (f := 67) (by rw [hP0]; exact Tryd.func67) rfl Tryd.ntmps67 rfl (by simp) ?_
  intro X K hU hnt hbl hK
  have hP : X.P = Tryd.prog := by rw [hU.P, hP0]
  have hG := hG0.under hU
  have hT : X.P.underlying 38 = some (TypeDesc.slice 9) ∧ elemSz X.P 38 = some (9, 1) ∧ aggOf X.P 9 = some false ∧ szOf X.P 9 = some 1 ∧ fieldOff X.P 123 0 = some 0 ∧ calleeOk X.P 104 = true ∧ calleeOk X.P 123 = true := by rw [hP]; exact ⟨Tryd.underlying38, Ty.el38, Ty.ag9, Ty.sz9, Ty.fo123_0, Ty.co104, Ty.co123⟩
  simp only [GA, ↓GB, List.filterMap_cons, eq_self, BEq.rfl, simprocAttr] at hbl ⊢
  repeat' (first
    | (refine SX.seqK ?_; intro N hN)
    | ((first | (refine SX.ops ?_) | (refine SX.planT (id := 3) [.q [(0, [0]), (1, [14]), (2, [15]), (3, [1]), (4, [7]), (5, [17, 18])] none, .s 6] ?_ ?_ ?_; (focus first | (rw [hP]; kernel_rfl) | (rw [hU1P, hP]; kernel_rfl)); (focus kernel_rfl))); simp only [GA, ↓GB, List.filterMap_cons, eq_self, BEq.rfl, simprocAttr, hnt, hT])
    | ((first | refine SX.skip ?_ | refine SX.exit ?_ | refine SX.label ?_); try simp only [GA, ↓GB, List.filterMap_cons, eq_self, BEq.rfl, simprocAttr])
    | (refine SX.cond rfl (fun hb => ?_) (fun hb => ?_) <;> ((first | cases hb | (simp only [decide_eq_true_eq, decide_eq_false_iff_not, beq_iff_eq, beq_eq_false_iff_ne, bne_iff_ne, Bool.and_eq_true, Bool.or_eq_true, Bool.not_eq_true', Bool.not_eq_false', Bool.and_eq_false_iff, Bool.or_eq_false_iff, Int.not_lt, Int.not_le] at hb) | skip) <;> (first | (exfalso; omega) | skip)))
    | (refine SX.ret ?_; try simp only [GA, ↓GB, List.filterMap_cons, eq_self, BEq.rfl, simprocAttr])
    | (refine hN _ ?_; clear hN N)
    | ((first | refine hK _ _ (FinI.ret3 ?_) | refine hK _ _ (FinI.nrm3 ?_)); simp only [GA, ↓GB, List.filterMap_cons, eq_self, BEq.rfl, simprocAttr, finP_s, hnt, hT]; refine Done.out ?_)
    | (clear hN N; first | (refine hN _ ?_; clear hN N) | (clear hN N; first | (refine hN _ ?_; clear hN N) | (clear hN N; first | (refine hN _ ?_; clear hN N) | (clear hN N; first | (refine hN _ ?_; clear hN N) | (clear hN N; first | (refine hN _ ?_; clear hN N) | (refine hN _ ?_; clear hN N))))))
    | (refine bif2.mk (fun hb => ?_) (fun hb => ?_) <;> (try simp only [hb, GA, ↓GB, List.filterMap_cons, eq_self, BEq.rfl, simprocAttr, hnt, hT]) <;> ((first | cases hb | (simp only [decide_eq_true_eq, decide_eq_false_iff_not, beq_iff_eq, beq_eq_false_iff_ne, bne_iff_ne, Bool.and_eq_true, Bool.or_eq_true, Bool.not_eq_true', Bool.not_eq_false', Bool.and_eq_false_iff, Bool.or_eq_false_iff, Int.not_lt, Int.not_le] at hb) | skip) <;> (first | (exfalso; omega) | skip)))
    | ((first | (refine CallVC.pv hP (text_any num s h1 h2 (by omega)) rfl ?_) | (refine CallQ.pv hP (text_any num s h1 h2 (by omega)) rfl ?_) | (refine Ctr.use (writeString_ctr l (textB num s) hlen) hP ?_ [0,1] ?_ rfl rfl ?_; (focus (intro p hp; cases hp)); (focus (refine LeR.of rfl trivial ?_ ?_ ?_ ?_ ?_ <;> first | decide | (simp only [GA, ↓GB, List.filterMap_cons, eq_self, BEq.rfl, simprocAttr, List.getD_cons_zero, List.getD_cons_succ, or_false, false_or, or_self, or_true, true_or, decide_true]; done))); intro os' s hR; obtain ⟨rfl, rfl⟩ := hR)); simp only [GA, ↓GB, List.filterMap_cons, eq_self, BEq.rfl, simprocAttr, hnt, hT])
    | (refine SX.loopN 2 ?_)
    | (refine SXr.stepK ?_; intro N hN)
    | (refine SX.block ?_)
    | (refine and_mk ?_ ?_; (focus first | decide | omega | rfl | assumption | (simp only [List.length_append, List.length_cons, List.length_nil, B_size]; omega) | (simp; done)))
    | (refine And.intro ?_ ?_))
  all_goals (try refine Done.mk ?_)
  all_goals exact hN0 _ _ ⟨rfl, rfl⟩
theorem wflag_yes (l : List UInt8) (num : Nat) (h1 : 1 ≤ num) (h2 : num < 536870912) (hl : l.length ≤ 1152921504000) :
    Ctr Tryd.prog [] 68 (bldr l) [.one (.c (.loc 0 0)), vv (.int .i64 num), vv (.bool true)] (fun os r => os = bldr' (l ++ numB num 1) ∧ r = .tup []) := by
  intro X0 hP0 hG0 N0 hN0
  refine CallVC.inline (f := 68) (by rw [hP0]; exact Tryd.func68) rfl Tryd.ntmps68 rfl (by simp) ?_
  intro X K hU hnt hbl hK
  have hP : X.P = Tryd.prog := by rw [hU.P, hP0]
  have hG := hG0.under hU
  have hT : calleeOk X.P 66 = true := by rw [hP]; exact Ty.co66
  simp only [GA, ↓GB, List.filterMap_cons, eq_self, BEq.rfl, simprocAttr] at hbl ⊢
  repeat' (first
    | (refine SX.seqK ?_; intro N hN)
    | ((first | (refine SX.ops ?_)); simp only [GA, ↓GB, List.filterMap_cons, eq_self, BEq.rfl, simprocAttr, hnt, hT])
    | ((first | refine SX.skip ?_ | refine SX.exit ?_ | refine SX.label ?_); try simp only [GA, ↓GB, List.filterMap_cons, eq_self, BEq.rfl, simprocAttr])
    | (refine SX.cond rfl (fun hb => ?_) (fun hb => ?_) <;> ((first | cases hb | (simp only [decide_eq_true_eq, decide_eq_false_iff_not, beq_iff_eq, beq_eq_false_iff_ne, bne_iff_ne, Bool.and_eq_true, Bool.or_eq_true, Bool.not_eq_true', Bool.not_eq_false', Bool.and_eq_false_iff, Bool.or_eq_false_iff, Int.not_lt, Int.not_le] at hb) | skip) <;> (first | (exfalso; omega) | skip)))
    | (refine SX.ret ?_; try simp only [GA, ↓GB, List.filterMap_cons, eq_self, BEq.rfl, simprocAttr])
    | (refine hN _ ?_; clear hN N)
    | ((first | refine hK _ _ (FinI.ret3 ?_) | refine hK _ _ (FinI.nrm3 ?_)); simp only [GA, ↓GB, List.filterMap_cons, eq_self, BEq.rfl, simprocAttr, finP_s, hnt, hT]; refine Done.out ?_)
    | (clear hN N; first | (refine hN _ ?_; clear hN N) | (clear hN N; first | (refine hN _ ?_; clear hN N) | (clear hN N; first | (refine hN _ ?_; clear hN N) | (clear hN N; first | (refine hN _ ?_; clear hN N) | (clear hN N; first | (refine hN _ ?_; clear hN N) | (refine hN _ ?_; clear hN N))))))
    | (refine bif2.mk (fun hb => ?_) (fun hb => ?_) <;> (try simp only [hb, GA, ↓GB, List.filterMap_cons, eq_self, BEq.rfl, simprocAttr, hnt, hT]) <;> ((first | cases hb | (simp only [decide_eq_true_eq, decide_eq_false_iff_not, beq_iff_eq, beq_eq_false_iff_ne, bne_iff_ne, Bool.and_eq_true, Bool.or_eq_true, Bool.not_eq_true', Bool.not_eq_false', Bool.and_eq_false_iff, Bool.or_eq_false_iff, Int.not_lt, Int.not_le] at hb) | skip) <;> (first | (exfalso; omega) | skip)))
    | ((first | (refine Ctr.use (wnumber_ctr l num 1 h1 h2 (by decide) (by decide) hl) hP ?_ [0,1] ?_ rfl rfl ?_; (focus (intro p hp; cases hp)); (focus (refine LeR.of rfl trivial ?_ ?_ ?_ ?_ ?_ <;> first | decide | (simp only [GA, ↓GB, List.filterMap_cons, eq_self, BEq.rfl, simprocAttr, List.getD_cons_zero, List.getD_cons_succ, or_false, false_or, or_self, or_true, true_or, decide_true]; done))); intro os' s hR; obtain ⟨rfl, rfl⟩ := hR)); simp only [GA, ↓GB, List.filterMap_cons, eq_self, BEq.rfl, simprocAttr, hnt, hT])
    | (refine SX.block ?_)
    | (refine and_mk ?_ ?_; (focus first | decide | omega | rfl | assumption | (simp only [List.length_append, List.length_cons, List.length_nil, B_size]; omega) | (simp; done)))
    | (refine And.intro ?_ ?_))
  all_goals (try refine Done.mk ?_)
  all_goals exact hN0 _ _ ⟨rfl, rfl⟩
theorem wflag_no (l : List UInt8) (num : Nat) : Ctr Tryd.prog [] 68 (bldr l) [.one (.c (.loc 0 0)), vv (.int .i64 num), vv (.bool false)] (fun os r => os = bldr l ∧ r = .tup []) := by
  intro X0 hP0 hG0 N0 hN0
  refine CallVC.inline (f := 68) (by rw [hP0]; exact Tryd.func68) rfl Tryd.ntmps68 rfl (by simp) ?_
  intro X K hU hnt hbl hK
  have hP : X.P = Tryd.prog := by rw [hU.P, hP0]
  have hG := hG0.under hU
  have hT : calleeOk X.P 66 = true := by rw [hP]; exact Ty.co66
  simp only [GA, ↓GB, List.filterMap_cons, eq_self, BEq.rfl, simprocAttr] at hbl ⊢
  repeat' (first
    | (refine SX.seqK ?_; intro N hN)
    | ((first | (refine SX.ops ?_)); simp only [GA, ↓GB, List.filterMap_cons, eq_self, BEq.rfl, simprocAttr, hnt, hT])
    | ((first | refine SX.skip ?_ | refine SX.exit ?_ | refine SX.label ?_); try simp only [GA, ↓GB, List.filterMap_cons, eq_self, BEq.rfl, simprocAttr])
    | (refine SX.cond rfl (fun hb => ?_) (fun hb => ?_) <;> ((first | cases hb | (simp only [decide_eq_true_eq, decide_eq_false_iff_not, beq_iff_eq, beq_eq_false_iff_ne, bne_iff_ne, Bool.and_eq_true, Bool.or_eq_true, Bool.not_eq_true', Bool.not_eq_false', Bool.and_eq_false_iff, Bool.or_eq_false_iff, Int.not_lt, Int.not_le] at hb) | skip) <;> (first | (exfalso; omega) | skip)))
    | (refine SX.ret ?_; try simp only [GA, ↓GB, List.filterMap_cons, eq_self, BEq.rfl, simprocAttr])
    | (refine hN _ ?_; clear hN N)
    | ((first | refine hK _ _ (FinI.ret3 ?_) | refine hK _ _ (FinI.nrm3 ?_)); simp only [GA, ↓GB, List.filterMap_cons, eq_self, BEq.rfl, simprocAttr, finP_s, hnt, hT]; refine Done.out ?_)
    | (clear hN N; first | (refine hN _ ?_; clear hN N) | (clear hN N; first | (refine hN _ ?_; clear hN N) | (clear hN N; first | (refine hN _ ?_; clear hN N) | (clear hN N; first | (refine hN _ ?_; clear hN N) | (clear hN N; first | (refine hN _ ?_; clear hN N) | (refine hN _ ?_; clear hN N))))))
    | (refine bif2.mk (fun hb => ?_) (fun hb => ?_) <;> (try simp only [hb, GA, ↓GB, List.filterMap_cons, eq_self, BEq.rfl, simprocAttr, hnt, hT]) <;> ((first | cases hb | (simp only [decide_eq_true_eq, decide_eq_false_iff_not, beq_iff_eq, beq_eq_false_iff_ne, bne_iff_ne, Bool.and_eq_true, Bool.or_eq_true, Bool.not_eq_true', Bool.not_eq_false', Bool.and_eq_false_iff, Bool.or_eq_false_iff, Int.not_lt, Int.not_le] at hb) | skip) <;> (first | (exfalso; omega) | skip)))
    | (refine SX.block ?_)
    | (refine and_mk ?_ ?_; (focus first | decide | omega | rfl | assumption | (simp only [List.length_append, List.length_cons, List.length_nil, B_size]; omega) | (simp; done)))
    | (refine And.intro ?_ ?_))
  all_goals (try refine Done.mk ?_)
  all_goals exact hN0 _ _ ⟨rfl, rfl⟩
end Go.Proofs.YtbdacbcpniegiaaDoor
namespace Go.Proofs.YtbdacbcpniegiaaDoor
open Go Go.RowKit Go.Proofs Go.Sx
set_option maxHeartbeats 4000000
set_option maxRecDepth 100000
set_option linter.unusedSimpArgs false
set_option linter.unusedVariables false
def statusBytes (t : Nat) (s : List UInt8) (q : Nat) (ok : Bool) (d : List UInt8) : List UInt8 :=
  [4] ++ numB 1 t ++ textB 2 s ++ numB 3 q ++ (if ok then numB 4 1 else []) ++ (if d = [] then [] else textB 5 d)
theorem putStatus_no (t : Int) (s : List UInt8) (q : Int) (ok : Bool) (d : List UInt8) (hs : s.length ≤ 9223372036854775807) (h : statusB t s q ok d = false) (w : World) :
    Calls Tryd.prog 19 #[.agg #[.int .i64 t, .string (B s), .int .u64 q, .bool ok, .string (B d)]] w fun e w' => e = .returned (.tuple #[.string (B []), .bool false]) ∧ Below w.heap.size w w' := by
  refine calls_pureK (args := [.agg #[.int .i64 t, .string (B s), .int .u64 q, .bool ok, .string (B d)]]) w Tryd.func19 rfl Tryd.ntmps19 (by simp) ?_
  intro X K hX hK
  have hnt : X.nt = 35 := by rw [hX]
  have hwi : X.wi = w := by rw [hX]
  have hP : X.P = Tryd.prog := by rw [hX]
  have hown : X.own = [] := by rw [hX]
  have hbl : X.base.length = 0 := by rw [hX]; rfl
  clear hX
  have hT : aggOf X.P 30 = some true ∧ szOf X.P 30 = some 5 ∧ calleeOk X.P 64 = true ∧ zeroCells X.P 123 = some [(Value.pointer none), (Value.slice none 0 0)] ∧ fieldOff X.P 123 0 = some 0 ∧ calleeOk X.P 65 = true ∧ fieldOff X.P 30 0 = some 0 ∧ fieldOff X.P 26 0 = some 0 ∧ aggOf X.P 3 = some false ∧ szOf X.P 3 = some 1 ∧ X.P.underlying 3 = some (TypeDesc.int IntKind.i64) ∧ X.P.underlying 22 = some (TypeDesc.int IntKind.u64) ∧ isBytesT X.P 3 = false ∧ isStrT X.P 22 = false ∧ calleeOk X.P 66 = true ∧ fieldOff X.P 26 1 = some 1 ∧ aggOf X.P 9 = some false ∧ szOf X.P 9 = some 1 ∧ elemSz X.P 38 = some (9, 1) ∧ zeroCells X.P 9 = some [(Value.string { data := #[] })] ∧ calleeOk X.P 67 = true ∧ fieldOff X.P 30 1 = some 2 ∧ aggOf X.P 22 = some false ∧ szOf X.P 22 = some 1 ∧ fieldOff X.P 30 2 = some 3 ∧ aggOf X.P 4 = some false ∧ szOf X.P 4 = some 1 ∧ calleeOk X.P 68 = true ∧ fieldOff X.P 30 3 = some 4 ∧ calleeOk X.P 69 = true := by rw [hP]; exact ⟨Ty.ag30, Ty.sz30, Ty.co64, Ty.ze123, Ty.fo123_0, Ty.co65, Ty.fo30_0, Ty.fo26_0, Ty.ag3, Ty.sz3, Tryd.underlying3, Tryd.underlying22, Ty.ib3, Ty.is22, Ty.co66, Ty.fo26_1, Ty.ag9, Ty.sz9, Ty.el38, Ty.ze9, Ty.co67, Ty.fo30_1, Ty.ag22, Ty.sz22, Ty.fo30_2, Ty.ag4, Ty.sz4, Ty.co68, Ty.fo30_3, Ty.co69⟩
  repeat' (first
    | (refine SX.seqK ?_; intro N hN)
    | ((first | (refine SX.ops ?_)); simp only [GA, ↓GB, List.filterMap_cons, eq_self, BEq.rfl, simprocAttr, hnt, hT, h])
    | ((first | refine SX.skip ?_ | refine SX.exit ?_ | refine SX.label ?_); try simp only [GA, ↓GB, List.filterMap_cons, eq_self, BEq.rfl, simprocAttr])
    | (refine SX.cond rfl (fun hb => ?_) (fun hb => ?_) <;> ((first | cases hb | (simp only [decide_eq_true_eq, decide_eq_false_iff_not, beq_iff_eq, beq_eq_false_iff_ne, bne_iff_ne, Bool.and_eq_true, Bool.or_eq_true, Bool.not_eq_true', Bool.not_eq_false', Bool.and_eq_false_iff, Bool.or_eq_false_iff, Int.not_lt, Int.not_le] at hb) | skip) <;> (first | (exfalso; omega) | skip)))
    | (refine SX.ret ?_; try simp only [GA, ↓GB, List.filterMap_cons, eq_self, BEq.rfl, simprocAttr])
    | (refine hN _ ?_; clear hN N)
    | (refine hK _ _ (Fin.res rfl hown ?_); simp only [GA, ↓GB, List.filterMap_cons, eq_self, BEq.rfl, simprocAttr, f_a, f_b, f_n, f_c, f_B, f_v, f_g, f_0, f_1, f_2, hT, hwi, h]; intro w' hbel; refine Done.out ?_)
    | (clear hN N; first | (refine hN _ ?_; clear hN N) | (clear hN N; first | (refine hN _ ?_; clear hN N) | (clear hN N; first | (refine hN _ ?_; clear hN N) | (clear hN N; first | (refine hN _ ?_; clear hN N) | (clear hN N; first | (refine hN _ ?_; clear hN N) | (refine hN _ ?_; clear hN N))))))
    | (refine bif2.mk (fun hb => ?_) (fun hb => ?_) <;> (try simp only [hb, GA, ↓GB, List.filterMap_cons, eq_self, BEq.rfl, simprocAttr, hnt, hT, h]) <;> ((first | cases hb | (simp only [decide_eq_true_eq, decide_eq_false_iff_not, beq_iff_eq, beq_eq_false_iff_ne, bne_iff_ne, Bool.and_eq_true, Bool.or_eq_true, Bool.not_eq_true', Bool.not_eq_false', Bool.and_eq_false_iff, Bool.or_eq_false_iff, Int.not_lt, Int.not_le] at hb) | skip) <;> (first | (exfalso; omega) | skip)))
    | ((first | (refine CallVC.pv hP (statusRight_any _ _ _ _ _ hs) rfl ?_) | (refine CallQ.pv hP (statusRight_any _ _ _ _ _ hs) rfl ?_)); simp only [GA, ↓GB, List.filterMap_cons, eq_self, BEq.rfl, simprocAttr, hnt, hT, h])
    | (refine SX.block ?_)
    | (refine and_mk ?_ ?_; (focus first | decide | omega | rfl | assumption | (simp only [List.length_append, List.length_cons, List.length_nil, B_size]; omega) | (simp; done)))
    | (refine And.intro ?_ ?_))
  all_goals (try refine Done.mk ?_)
  all_goals exact hbel
theorem numB_len (num n : Nat) (h1 : num < 536870912) (hn : n < 18446744073709551616) : (numB num n).length ≤ 20 := by
  have hl1 := NW.varint_len10 (n := num * 8) (by omega)
  have hl2 := NW.varint_len10 (n := n) (by omega)
  simp [numB]; omega
theorem textB_len (num : Nat) (s : List UInt8) (h1 : num < 536870912) (hs : s.length < 4294967296) : (textB num s).length ≤ 20 + s.length := by
  have hl1 := NW.varint_len10 (n := num * 8 + 2) (by omega)
  have hl2 := NW.varint_len10 (n := s.length) (by omega)
  simp [textB]; omega
theorem putStatus_ok (t : Nat) (s : List UInt8) (q : Nat) (hs : s.length < 4294967296) (hq : q < 18446744073709551616) (ht : t ≤ 5) (ht1 : 1 ≤ t) (hq1 : 0 < q) (h : statusB t s q true [] = true) (w : World) :
    Calls Tryd.prog 19 #[.agg #[.int .i64 t, .string (B s), .int .u64 q, .bool true, .string (B [])]] w fun e w' => e = .returned (.tuple #[.string (B (statusBytes t s q true [])), .bool true]) ∧ Below w.heap.size w w' := by
  have e1 : IntKind.u64.wrap (t : Int) = (t : Int) := wU64 (by omega) (by omega)
  have n1 := numB_len 1 t (by decide) (by omega)
  have n2 := textB_len 2 s (by decide) hs
  have n3 := numB_len 3 q (by decide) hq
  have n4 := numB_len 4 1 (by decide) (by decide)
  refine calls_pureK (args := [.agg #[.int .i64 t, .string (B s), .int .u64 q, .bool true, .string (B [])]]) w Tryd.func19 rfl Tryd.ntmps19 (by simp) ?_
  intro X K hX hK
  have hnt : X.nt = 35 := by rw [hX]
  have hwi : X.wi = w := by rw [hX]
  have hP : X.P = Tryd.prog := by rw [hX]
  have hown : X.own = [] := by rw [hX]
  have hbl : X.base.length = 0 := by rw [hX]; rfl
  clear hX
  have hT : aggOf X.P 30 = some true ∧ szOf X.P 30 = some 5 ∧ calleeOk X.P 64 = true ∧ zeroCells X.P 123 = some [(Value.pointer none), (Value.slice none 0 0)] ∧ fieldOff X.P 123 0 = some 0 ∧ calleeOk X.P 65 = true ∧ fieldOff X.P 30 0 = some 0 ∧ fieldOff X.P 26 0 = some 0 ∧ aggOf X.P 3 = some false ∧ szOf X.P 3 = some 1 ∧ X.P.underlying 3 = some (TypeDesc.int IntKind.i64) ∧ X.P.underlying 22 = some (TypeDesc.int IntKind.u64) ∧ isBytesT X.P 3 = false ∧ isStrT X.P 22 = false ∧ calleeOk X.P 66 = true ∧ fieldOff X.P 26 1 = some 1 ∧ aggOf X.P 9 = some false ∧ szOf X.P 9 = some 1 ∧ elemSz X.P 38 = some (9, 1) ∧ zeroCells X.P 9 = some [(Value.string { data := #[] })] ∧ calleeOk X.P 67 = true ∧ fieldOff X.P 30 1 = some 2 ∧ aggOf X.P 22 = some false ∧ szOf X.P 22 = some 1 ∧ fieldOff X.P 30 2 = some 3 ∧ aggOf X.P 4 = some false ∧ szOf X.P 4 = some 1 ∧ calleeOk X.P 68 = true ∧ fieldOff X.P 30 3 = some 4 ∧ calleeOk X.P 69 = true := by rw [hP]; exact ⟨Ty.ag30, Ty.sz30, Ty.co64, Ty.ze123, Ty.fo123_0, Ty.co65, Ty.fo30_0, Ty.fo26_0, Ty.ag3, Ty.sz3, Tryd.underlying3, Tryd.underlying22, Ty.ib3, Ty.is22, Ty.co66, Ty.fo26_1, Ty.ag9, Ty.sz9, Ty.el38, Ty.ze9, Ty.co67, Ty.fo30_1, Ty.ag22, Ty.sz22, Ty.fo30_2, Ty.ag4, Ty.sz4, Ty.co68, Ty.fo30_3, Ty.co69⟩
  repeat' (first
    | (refine SX.seqK ?_; intro N hN)
    | ((first | (refine SX.ops ?_)); simp only [GA, ↓GB, List.filterMap_cons, eq_self, BEq.rfl, simprocAttr, hnt, hT, h, e1])
    | ((first | refine SX.skip ?_ | refine SX.exit ?_ | refine SX.label ?_); try simp only [GA, ↓GB, List.filterMap_cons, eq_self, BEq.rfl, simprocAttr])
    | (refine SX.cond rfl (fun hb => ?_) (fun hb => ?_) <;> ((first | cases hb | (simp only [decide_eq_true_eq, decide_eq_false_iff_not, beq_iff_eq, beq_eq_false_iff_ne, bne_iff_ne, Bool.and_eq_true, Bool.or_eq_true, Bool.not_eq_true', Bool.not_eq_false', Bool.and_eq_false_iff, Bool.or_eq_false_iff, Int.not_lt, Int.not_le] at hb) | skip) <;> (first | (exfalso; omega) | skip)))
    | (refine SX.ret ?_; try simp only [GA, ↓GB, List.filterMap_cons, eq_self, BEq.rfl, simprocAttr])
    | (refine hN _ ?_; clear hN N)
    | (refine hK _ _ (Fin.res rfl hown ?_); simp only [GA, ↓GB, List.filterMap_cons, eq_self, BEq.rfl, simprocAttr, f_a, f_b, f_n, f_c, f_B, f_v, f_g, f_0, f_1, f_2, hT, hwi, h, e1]; intro w' hbel; refine Done.out ?_)
    | (clear hN N; first | (refine hN _ ?_; clear hN N) | (clear hN N; first | (refine hN _ ?_; clear hN N) | (clear hN N; first | (refine hN _ ?_; clear hN N) | (clear hN N; first | (refine hN _ ?_; clear hN N) | (clear hN N; first | (refine hN _ ?_; clear hN N) | (refine hN _ ?_; clear hN N))))))
    | (refine bif2.mk (fun hb => ?_) (fun hb => ?_) <;> (try simp only [hb, GA, ↓GB, List.filterMap_cons, eq_self, BEq.rfl, simprocAttr, hnt, hT, h, e1]) <;> ((first | cases hb | (simp only [decide_eq_true_eq, decide_eq_false_iff_not, beq_iff_eq, beq_eq_false_iff_ne, bne_iff_ne, Bool.and_eq_true, Bool.or_eq_true, Bool.not_eq_true', Bool.not_eq_false', Bool.and_eq_false_iff, Bool.or_eq_false_iff, Int.not_lt, Int.not_le] at hb) | skip) <;> (first | (exfalso; omega) | skip)))
    | ((first | (refine CallVC.pv hP (statusRight_any _ _ _ _ _ (by omega)) rfl ?_) | (refine CallQ.pv hP (statusRight_any _ _ _ _ _ (by omega)) rfl ?_) | (refine Ctr.use (writeByte_ctr 4) hP ?_ [1] ?_ rfl rfl ?_; (focus (intro p hp; cases hp)); (focus (refine LeR.of rfl trivial ?_ ?_ ?_ ?_ ?_ <;> first | decide | (simp only [GA, ↓GB, List.filterMap_cons, eq_self, BEq.rfl, simprocAttr, List.getD_cons_zero, List.getD_cons_succ, or_false, false_or, or_self, or_true, true_or, decide_true]; done))); intro os' s hR; obtain ⟨rfl, rfl⟩ := hR) | (refine Ctr.use (wnumber_ctr [4] 1 t (by decide) (by decide) (by omega) (by omega) (by simp)) hP ?_ [1,4] ?_ rfl rfl ?_; (focus (intro p hp; cases hp)); (focus (refine LeR.of rfl trivial ?_ ?_ ?_ ?_ ?_ <;> first | decide | (simp only [GA, ↓GB, List.filterMap_cons, eq_self, BEq.rfl, simprocAttr, List.getD_cons_zero, List.getD_cons_succ, or_false, false_or, or_self, or_true, true_or, decide_true]; done))); intro os' s hR; obtain ⟨rfl, rfl⟩ := hR) | (refine Ctr.use (wlist1_ctr (4 :: numB 1 t) s 2 (by decide) (by decide) hs (by simp; omega)) hP ?_ [1,5,6] ?_ rfl rfl ?_; (focus (intro p hp; cases hp)); (focus (refine LeR.of rfl trivial ?_ ?_ ?_ ?_ ?_ <;> first | decide | (simp only [GA, ↓GB, List.filterMap_cons, eq_self, BEq.rfl, simprocAttr, List.getD_cons_zero, List.getD_cons_succ, or_false, false_or, or_self, or_true, true_or, decide_true]; done))); intro os' s hR; obtain ⟨rfl, rfl⟩ := hR) | (refine Ctr.use (wnumber_ctr (4 :: (numB 1 t ++ textB 2 s)) 3 q (by decide) (by decide) hq1 hq (by simp; omega)) hP ?_ [1,7] ?_ rfl rfl ?_; (focus (intro p hp; cases hp)); (focus (refine LeR.of rfl trivial ?_ ?_ ?_ ?_ ?_ <;> first | decide | (simp only [GA, ↓GB, List.filterMap_cons, eq_self, BEq.rfl, simprocAttr, List.getD_cons_zero, List.getD_cons_succ, or_false, false_or, or_self, or_true, true_or, decide_true]; done))); intro os' s hR; obtain ⟨rfl, rfl⟩ := hR) | (refine Ctr.use (wflag_yes (4 :: (numB 1 t ++ textB 2 s ++ numB 3 q)) 4 (by decide) (by decide) (by simp; omega)) hP ?_ [1,8] ?_ rfl rfl ?_; (focus (intro p hp; cases hp)); (focus (refine LeR.of rfl trivial ?_ ?_ ?_ ?_ ?_ <;> first | decide | (simp only [GA, ↓GB, List.filterMap_cons, eq_self, BEq.rfl, simprocAttr, List.getD_cons_zero, List.getD_cons_succ, or_false, false_or, or_self, or_true, true_or, decide_true]; done))); intro os' s hR; obtain ⟨rfl, rfl⟩ := hR) | (refine Ctr.use (string_ctr (4 :: (numB 1 t ++ textB 2 s ++ numB 3 q ++ numB 4 1)) (by simp) (by simp; omega)) hP ?_ [1,9] ?_ rfl rfl ?_; (focus (intro p hp; cases hp)); (focus (refine LeR.of rfl trivial ?_ ?_ ?_ ?_ ?_ <;> first | decide | (simp only [GA, ↓GB, List.filterMap_cons, eq_self, BEq.rfl, simprocAttr, List.getD_cons_zero, List.getD_cons_succ, or_false, false_or, or_self, or_true, true_or, decide_true]; done))); intro os' s hR; obtain ⟨rfl, rfl⟩ := hR)); simp only [GA, ↓GB, List.filterMap_cons, eq_self, BEq.rfl, simprocAttr, hnt, hT, h, e1])
    | (refine SX.block ?_)
    | (refine and_mk ?_ ?_; (focus first | decide | omega | rfl | assumption | (simp only [List.length_append, List.length_cons, List.length_nil, B_size]; omega) | (simp; done)))
    | (refine And.intro ?_ ?_))
  all_goals (try refine Done.mk ?_)
  all_goals first | exact hbel | exact ⟨by simp [statusBytes], hbel⟩
theorem putStatus_plain (t : Nat) (s : List UInt8) (q : Nat) (hs : s.length < 4294967296) (hq : q < 18446744073709551616) (ht : t ≤ 5) (ht1 : 1 ≤ t) (hq1 : 0 < q) (h : statusB t s q false [] = true) (w : World) :
    Calls Tryd.prog 19 #[.agg #[.int .i64 t, .string (B s), .int .u64 q, .bool false, .string (B [])]] w fun e w' => e = .returned (.tuple #[.string (B (statusBytes t s q false [])), .bool true]) ∧ Below w.heap.size w w' := by
  have e1 : IntKind.u64.wrap (t : Int) = (t : Int) := wU64 (by omega) (by omega)
  have n1 := numB_len 1 t (by decide) (by omega)
  have n2 := textB_len 2 s (by decide) hs
  have n3 := numB_len 3 q (by decide) hq
  have n4 := numB_len 4 1 (by decide) (by decide)
  refine calls_pureK (args := [.agg #[.int .i64 t, .string (B s), .int .u64 q, .bool false, .string (B [])]]) w Tryd.func19 rfl Tryd.ntmps19 (by simp) ?_
  intro X K hX hK
  have hnt : X.nt = 35 := by rw [hX]
  have hwi : X.wi = w := by rw [hX]
  have hP : X.P = Tryd.prog := by rw [hX]
  have hown : X.own = [] := by rw [hX]
  have hbl : X.base.length = 0 := by rw [hX]; rfl
  clear hX
  have hT : aggOf X.P 30 = some true ∧ szOf X.P 30 = some 5 ∧ calleeOk X.P 64 = true ∧ zeroCells X.P 123 = some [(Value.pointer none), (Value.slice none 0 0)] ∧ fieldOff X.P 123 0 = some 0 ∧ calleeOk X.P 65 = true ∧ fieldOff X.P 30 0 = some 0 ∧ fieldOff X.P 26 0 = some 0 ∧ aggOf X.P 3 = some false ∧ szOf X.P 3 = some 1 ∧ X.P.underlying 3 = some (TypeDesc.int IntKind.i64) ∧ X.P.underlying 22 = some (TypeDesc.int IntKind.u64) ∧ isBytesT X.P 3 = false ∧ isStrT X.P 22 = false ∧ calleeOk X.P 66 = true ∧ fieldOff X.P 26 1 = some 1 ∧ aggOf X.P 9 = some false ∧ szOf X.P 9 = some 1 ∧ elemSz X.P 38 = some (9, 1) ∧ zeroCells X.P 9 = some [(Value.string { data := #[] })] ∧ calleeOk X.P 67 = true ∧ fieldOff X.P 30 1 = some 2 ∧ aggOf X.P 22 = some false ∧ szOf X.P 22 = some 1 ∧ fieldOff X.P 30 2 = some 3 ∧ aggOf X.P 4 = some false ∧ szOf X.P 4 = some 1 ∧ calleeOk X.P 68 = true ∧ fieldOff X.P 30 3 = some 4 ∧ calleeOk X.P 69 = true := by rw [hP]; exact ⟨Ty.ag30, Ty.sz30, Ty.co64, Ty.ze123, Ty.fo123_0, Ty.co65, Ty.fo30_0, Ty.fo26_0, Ty.ag3, Ty.sz3, Tryd.underlying3, Tryd.underlying22, Ty.ib3, Ty.is22, Ty.co66, Ty.fo26_1, Ty.ag9, Ty.sz9, Ty.el38, Ty.ze9, Ty.co67, Ty.fo30_1, Ty.ag22, Ty.sz22, Ty.fo30_2, Ty.ag4, Ty.sz4, Ty.co68, Ty.fo30_3, Ty.co69⟩
  repeat' (first
    | (refine SX.seqK ?_; intro N hN)
    | ((first | (refine SX.ops ?_)); simp only [GA, ↓GB, List.filterMap_cons, eq_self, BEq.rfl, simprocAttr, hnt, hT, h, e1])
    | ((first | refine SX.skip ?_ | refine SX.exit ?_ | refine SX.label ?_); try simp only [GA, ↓GB, List.filterMap_cons, eq_self, BEq.rfl, simprocAttr])
    | (refine SX.cond rfl (fun hb => ?_) (fun hb => ?_) <;> ((first | cases hb | (simp only [decide_eq_true_eq, decide_eq_false_iff_not, beq_iff_eq, beq_eq_false_iff_ne, bne_iff_ne, Bool.and_eq_true, Bool.or_eq_true, Bool.not_eq_true', Bool.not_eq_false', Bool.and_eq_false_iff, Bool.or_eq_false_iff, Int.not_lt, Int.not_le] at hb) | skip) <;> (first | (exfalso; omega) | skip)))
    | (refine SX.ret ?_; try simp only [GA, ↓GB, List.filterMap_cons, eq_self, BEq.rfl, simprocAttr])
    | (refine hN _ ?_; clear hN N)
    | (refine hK _ _ (Fin.res rfl hown ?_); simp only [GA, ↓GB, List.filterMap_cons, eq_self, BEq.rfl, simprocAttr, f_a, f_b, f_n, f_c, f_B, f_v, f_g, f_0, f_1, f_2, hT, hwi, h, e1]; intro w' hbel; refine Done.out ?_)
    | (clear hN N; first | (refine hN _ ?_; clear hN N) | (clear hN N; first | (refine hN _ ?_; clear hN N) | (clear hN N; first | (refine hN _ ?_; clear hN N) | (clear hN N; first | (refine hN _ ?_; clear hN N) | (clear hN N; first | (refine hN _ ?_; clear hN N) | (refine hN _ ?_; clear hN N))))))
    | (refine bif2.mk (fun hb => ?_) (fun hb => ?_) <;> (try simp only [hb, GA, ↓GB, List.filterMap_cons, eq_self, BEq.rfl, simprocAttr, hnt, hT, h, e1]) <;> ((first | cases hb | (simp only [decide_eq_true_eq, decide_eq_false_iff_not, beq_iff_eq, beq_eq_false_iff_ne, bne_iff_ne, Bool.and_eq_true, Bool.or_eq_true, Bool.not_eq_true', Bool.not_eq_false', Bool.and_eq_false_iff, Bool.or_eq_false_iff, Int.not_lt, Int.not_le] at hb) | skip) <;> (first | (exfalso; omega) | skip)))
    | ((first | (refine CallVC.pv hP (statusRight_any _ _ _ _ _ (by omega)) rfl ?_) | (refine CallQ.pv hP (statusRight_any _ _ _ _ _ (by omega)) rfl ?_) | (refine Ctr.use (writeByte_ctr 4) hP ?_ [1] ?_ rfl rfl ?_; (focus (intro p hp; cases hp)); (focus (refine LeR.of rfl trivial ?_ ?_ ?_ ?_ ?_ <;> first | decide | (simp only [GA, ↓GB, List.filterMap_cons, eq_self, BEq.rfl, simprocAttr, List.getD_cons_zero, List.getD_cons_succ, or_false, false_or, or_self, or_true, true_or, decide_true]; done))); intro os' s hR; obtain ⟨rfl, rfl⟩ := hR) | (refine Ctr.use (wnumber_ctr [4] 1 t (by decide) (by decide) (by omega) (by omega) (by simp)) hP ?_ [1,4] ?_ rfl rfl ?_; (focus (intro p hp; cases hp)); (focus (refine LeR.of rfl trivial ?_ ?_ ?_ ?_ ?_ <;> first | decide | (simp only [GA, ↓GB, List.filterMap_cons, eq_self, BEq.rfl, simprocAttr, List.getD_cons_zero, List.getD_cons_succ, or_false, false_or, or_self, or_true, true_or, decide_true]; done))); intro os' s hR; obtain ⟨rfl, rfl⟩ := hR) | (refine Ctr.use (wlist1_ctr (4 :: numB 1 t) s 2 (by decide) (by decide) hs (by simp; omega)) hP ?_ [1,5,6] ?_ rfl rfl ?_; (focus (intro p hp; cases hp)); (focus (refine LeR.of rfl trivial ?_ ?_ ?_ ?_ ?_ <;> first | decide | (simp only [GA, ↓GB, List.filterMap_cons, eq_self, BEq.rfl, simprocAttr, List.getD_cons_zero, List.getD_cons_succ, or_false, false_or, or_self, or_true, true_or, decide_true]; done))); intro os' s hR; obtain ⟨rfl, rfl⟩ := hR) | (refine Ctr.use (wnumber_ctr (4 :: (numB 1 t ++ textB 2 s)) 3 q (by decide) (by decide) hq1 hq (by simp; omega)) hP ?_ [1,7] ?_ rfl rfl ?_; (focus (intro p hp; cases hp)); (focus (refine LeR.of rfl trivial ?_ ?_ ?_ ?_ ?_ <;> first | decide | (simp only [GA, ↓GB, List.filterMap_cons, eq_self, BEq.rfl, simprocAttr, List.getD_cons_zero, List.getD_cons_succ, or_false, false_or, or_self, or_true, true_or, decide_true]; done))); intro os' s hR; obtain ⟨rfl, rfl⟩ := hR) | (refine Ctr.use (wflag_no (4 :: (numB 1 t ++ textB 2 s ++ numB 3 q)) 4) hP ?_ [1,8] ?_ rfl rfl ?_; (focus (intro p hp; cases hp)); (focus (refine LeR.of rfl trivial ?_ ?_ ?_ ?_ ?_ <;> first | decide | (simp only [GA, ↓GB, List.filterMap_cons, eq_self, BEq.rfl, simprocAttr, List.getD_cons_zero, List.getD_cons_succ, or_false, false_or, or_self, or_true, true_or, decide_true]; done))); intro os' s hR; obtain ⟨rfl, rfl⟩ := hR) | (refine Ctr.use (string_ctr (4 :: (numB 1 t ++ textB 2 s ++ numB 3 q)) (by simp) (by simp; omega)) hP ?_ [1,8] ?_ rfl rfl ?_; (focus (intro p hp; cases hp)); (focus (refine LeR.of rfl trivial ?_ ?_ ?_ ?_ ?_ <;> first | decide | (simp only [GA, ↓GB, List.filterMap_cons, eq_self, BEq.rfl, simprocAttr, List.getD_cons_zero, List.getD_cons_succ, or_false, false_or, or_self, or_true, true_or, decide_true]; done))); intro os' s hR; obtain ⟨rfl, rfl⟩ := hR)); simp only [GA, ↓GB, List.filterMap_cons, eq_self, BEq.rfl, simprocAttr, hnt, hT, h, e1])
    | (refine SX.block ?_)
    | (refine and_mk ?_ ?_; (focus first | decide | omega | rfl | assumption | (simp only [List.length_append, List.length_cons, List.length_nil, B_size]; omega) | (simp; done)))
    | (refine And.intro ?_ ?_))
  all_goals (try refine Done.mk ?_)
  all_goals first | exact hbel | exact ⟨by simp [statusBytes], hbel⟩
theorem putStatus_detail (t : Nat) (s : List UInt8) (q : Nat) (hs : s.length < 4294967296) (hq : q < 18446744073709551616) (ht : t ≤ 5) (ht1 : 1 ≤ t) (hq1 : 0 < q) (d : List UInt8) (hd : d.length < 4294967296) (hd0 : d ≠ []) (h : statusB t s q false d = true) (w : World) :
    Calls Tryd.prog 19 #[.agg #[.int .i64 t, .string (B s), .int .u64 q, .bool false, .string (B d)]] w fun e w' => e = .returned (.tuple #[.string (B (statusBytes t s q false d)), .bool true]) ∧ Below w.heap.size w w' := by
  have e1 : IntKind.u64.wrap (t : Int) = (t : Int) := wU64 (by omega) (by omega)
  have n1 := numB_len 1 t (by decide) (by omega)
  have n2 := textB_len 2 s (by decide) hs
  have n3 := numB_len 3 q (by decide) hq
  have n4 := numB_len 4 1 (by decide) (by decide)
  have n5 := textB_len 5 d (by decide) hd
  have gd : (d == []) = false := by cases d <;> simp_all
  refine calls_pureK (args := [.agg #[.int .i64 t, .string (B s), .int .u64 q, .bool false, .string (B d)]]) w Tryd.func19 rfl Tryd.ntmps19 (by simp) ?_
  intro X K hX hK
  have hnt : X.nt = 35 := by rw [hX]
  have hwi : X.wi = w := by rw [hX]
  have hP : X.P = Tryd.prog := by rw [hX]
  have hown : X.own = [] := by rw [hX]
  have hbl : X.base.length = 0 := by rw [hX]; rfl
  clear hX
  have hT : aggOf X.P 30 = some true ∧ szOf X.P 30 = some 5 ∧ calleeOk X.P 64 = true ∧ zeroCells X.P 123 = some [(Value.pointer none), (Value.slice none 0 0)] ∧ fieldOff X.P 123 0 = some 0 ∧ calleeOk X.P 65 = true ∧ fieldOff X.P 30 0 = some 0 ∧ fieldOff X.P 26 0 = some 0 ∧ aggOf X.P 3 = some false ∧ szOf X.P 3 = some 1 ∧ X.P.underlying 3 = some (TypeDesc.int IntKind.i64) ∧ X.P.underlying 22 = some (TypeDesc.int IntKind.u64) ∧ isBytesT X.P 3 = false ∧ isStrT X.P 22 = false ∧ calleeOk X.P 66 = true ∧ fieldOff X.P 26 1 = some 1 ∧ aggOf X.P 9 = some false ∧ szOf X.P 9 = some 1 ∧ elemSz X.P 38 = some (9, 1) ∧ zeroCells X.P 9 = some [(Value.string { data := #[] })] ∧ calleeOk X.P 67 = true ∧ fieldOff X.P 30 1 = some 2 ∧ aggOf X.P 22 = some false ∧ szOf X.P 22 = some 1 ∧ fieldOff X.P 30 2 = some 3 ∧ aggOf X.P 4 = some false ∧ szOf X.P 4 = some 1 ∧ calleeOk X.P 68 = true ∧ fieldOff X.P 30 3 = some 4 ∧ calleeOk X.P 69 = true := by rw [hP]; exact ⟨Ty.ag30, Ty.sz30, Ty.co64, Ty.ze123, Ty.fo123_0, Ty.co65, Ty.fo30_0, Ty.fo26_0, Ty.ag3, Ty.sz3, Tryd.underlying3, Tryd.underlying22, Ty.ib3, Ty.is22, Ty.co66, Ty.fo26_1, Ty.ag9, Ty.sz9, Ty.el38, Ty.ze9, Ty.co67, Ty.fo30_1, Ty.ag22, Ty.sz22, Ty.fo30_2, Ty.ag4, Ty.sz4, Ty.co68, Ty.fo30_3, Ty.co69⟩
  repeat' (first
    | (refine SX.seqK ?_; intro N hN)
    | ((first | (refine SX.ops ?_)); simp only [GA, ↓GB, List.filterMap_cons, eq_self, BEq.rfl, simprocAttr, hnt, hT, h, e1, gd])
    | ((first | refine SX.skip ?_ | refine SX.exit ?_ | refine SX.label ?_); try simp only [GA, ↓GB, List.filterMap_cons, eq_self, BEq.rfl, simprocAttr])
    | (refine SX.cond rfl (fun hb => ?_) (fun hb => ?_) <;> ((first | cases hb | (simp only [decide_eq_true_eq, decide_eq_false_iff_not, beq_iff_eq, beq_eq_false_iff_ne, bne_iff_ne, Bool.and_eq_true, Bool.or_eq_true, Bool.not_eq_true', Bool.not_eq_false', Bool.and_eq_false_iff, Bool.or_eq_false_iff, Int.not_lt, Int.not_le] at hb) | skip) <;> (first | (exfalso; omega) | skip)))
    | (refine SX.ret ?_; try simp only [GA, ↓GB, List.filterMap_cons, eq_self, BEq.rfl, simprocAttr])
    | (refine hN _ ?_; clear hN N)
    | (refine hK _ _ (Fin.res rfl hown ?_); simp only [GA, ↓GB, List.filterMap_cons, eq_self, BEq.rfl, simprocAttr, f_a, f_b, f_n, f_c, f_B, f_v, f_g, f_0, f_1, f_2, hT, hwi, h, e1, gd]; intro w' hbel; refine Done.out ?_)
    | (clear hN N; first | (refine hN _ ?_; clear hN N) | (clear hN N; first | (refine hN _ ?_; clear hN N) | (clear hN N; first | (refine hN _ ?_; clear hN N) | (clear hN N; first | (refine hN _ ?_; clear hN N) | (clear hN N; first | (refine hN _ ?_; clear hN N) | (refine hN _ ?_; clear hN N))))))
    | (refine bif2.mk (fun hb => ?_) (fun hb => ?_) <;> (try simp only [hb, GA, ↓GB, List.filterMap_cons, eq_self, BEq.rfl, simprocAttr, hnt, hT, h, e1, gd]) <;> ((first | cases hb | (simp only [decide_eq_true_eq, decide_eq_false_iff_not, beq_iff_eq, beq_eq_false_iff_ne, bne_iff_ne, Bool.and_eq_true, Bool.or_eq_true, Bool.not_eq_true', Bool.not_eq_false', Bool.and_eq_false_iff, Bool.or_eq_false_iff, Int.not_lt, Int.not_le] at hb) | skip) <;> (first | (exfalso; omega) | skip)))
    | ((first | (refine CallVC.pv hP (statusRight_any _ _ _ _ _ (by omega)) rfl ?_) | (refine CallQ.pv hP (statusRight_any _ _ _ _ _ (by omega)) rfl ?_) | (refine Ctr.use (writeByte_ctr 4) hP ?_ [1] ?_ rfl rfl ?_; (focus (intro p hp; cases hp)); (focus (refine LeR.of rfl trivial ?_ ?_ ?_ ?_ ?_ <;> first | decide | (simp only [GA, ↓GB, List.filterMap_cons, eq_self, BEq.rfl, simprocAttr, List.getD_cons_zero, List.getD_cons_succ, or_false, false_or, or_self, or_true, true_or, decide_true]; done))); intro os' s hR; obtain ⟨rfl, rfl⟩ := hR) | (refine Ctr.use (wnumber_ctr [4] 1 t (by decide) (by decide) (by omega) (by omega) (by simp)) hP ?_ [1,4] ?_ rfl rfl ?_; (focus (intro p hp; cases hp)); (focus (refine LeR.of rfl trivial ?_ ?_ ?_ ?_ ?_ <;> first | decide | (simp only [GA, ↓GB, List.filterMap_cons, eq_self, BEq.rfl, simprocAttr, List.getD_cons_zero, List.getD_cons_succ, or_false, false_or, or_self, or_true, true_or, decide_true]; done))); intro os' s hR; obtain ⟨rfl, rfl⟩ := hR) | (refine Ctr.use (wlist1_ctr (4 :: numB 1 t) s 2 (by decide) (by decide) hs (by simp; omega)) hP ?_ [1,5,6] ?_ rfl rfl ?_; (focus (intro p hp; cases hp)); (focus (refine LeR.of rfl trivial ?_ ?_ ?_ ?_ ?_ <;> first | decide | (simp only [GA, ↓GB, List.filterMap_cons, eq_self, BEq.rfl, simprocAttr, List.getD_cons_zero, List.getD_cons_succ, or_false, false_or, or_self, or_true, true_or, decide_true]; done))); intro os' s hR; obtain ⟨rfl, rfl⟩ := hR) | (refine Ctr.use (wnumber_ctr (4 :: (numB 1 t ++ textB 2 s)) 3 q (by decide) (by decide) hq1 hq (by simp; omega)) hP ?_ [1,7] ?_ rfl rfl ?_; (focus (intro p hp; cases hp)); (focus (refine LeR.of rfl trivial ?_ ?_ ?_ ?_ ?_ <;> first | decide | (simp only [GA, ↓GB, List.filterMap_cons, eq_self, BEq.rfl, simprocAttr, List.getD_cons_zero, List.getD_cons_succ, or_false, false_or, or_self, or_true, true_or, decide_true]; done))); intro os' s hR; obtain ⟨rfl, rfl⟩ := hR) | (refine Ctr.use (wflag_no (4 :: (numB 1 t ++ textB 2 s ++ numB 3 q)) 4) hP ?_ [1,8] ?_ rfl rfl ?_; (focus (intro p hp; cases hp)); (focus (refine LeR.of rfl trivial ?_ ?_ ?_ ?_ ?_ <;> first | decide | (simp only [GA, ↓GB, List.filterMap_cons, eq_self, BEq.rfl, simprocAttr, List.getD_cons_zero, List.getD_cons_succ, or_false, false_or, or_self, or_true, true_or, decide_true]; done))); intro os' s hR; obtain ⟨rfl, rfl⟩ := hR) | (refine Ctr.use (wlist1_ctr (4 :: (numB 1 t ++ textB 2 s ++ numB 3 q)) d 5 (by decide) (by decide) hd (by simp; omega)) hP ?_ [1,8,9] ?_ rfl rfl ?_; (focus (intro p hp; cases hp)); (focus (refine LeR.of rfl trivial ?_ ?_ ?_ ?_ ?_ <;> first | decide | (simp only [GA, ↓GB, List.filterMap_cons, eq_self, BEq.rfl, simprocAttr, List.getD_cons_zero, List.getD_cons_succ, or_false, false_or, or_self, or_true, true_or, decide_true]; done))); intro os' s hR; obtain ⟨rfl, rfl⟩ := hR) | (refine Ctr.use (string_ctr (4 :: (numB 1 t ++ textB 2 s ++ numB 3 q ++ textB 5 d)) (by simp) (by simp; omega)) hP ?_ [1,10] ?_ rfl rfl ?_; (focus (intro p hp; cases hp)); (focus (refine LeR.of rfl trivial ?_ ?_ ?_ ?_ ?_ <;> first | decide | (simp only [GA, ↓GB, List.filterMap_cons, eq_self, BEq.rfl, simprocAttr, List.getD_cons_zero, List.getD_cons_succ, or_false, false_or, or_self, or_true, true_or, decide_true]; done))); intro os' s hR; obtain ⟨rfl, rfl⟩ := hR)); simp only [GA, ↓GB, List.filterMap_cons, eq_self, BEq.rfl, simprocAttr, hnt, hT, h, e1, gd])
    | (refine SX.block ?_)
    | (refine and_mk ?_ ?_; (focus first | decide | omega | rfl | assumption | (simp only [List.length_append, List.length_cons, List.length_nil, B_size]; omega) | (simp; done)))
    | (refine And.intro ?_ ?_))
  all_goals (try refine Done.mk ?_)
  all_goals first | exact hbel | exact ⟨by simp [statusBytes, hd0], hbel⟩
end Go.Proofs.YtbdacbcpniegiaaDoor
namespace Go.Proofs.YtbdacbcpniegiaaDoor
open Go Go.RowKit Go.Proofs Go.Sx
set_option maxHeartbeats 4000000
set_option maxRecDepth 100000
set_option linter.unusedSimpArgs false
set_option linter.unusedVariables false
theorem nameB_len {s : List UInt8} (h : nameB s = true) : s.length ≤ 64 := by
  simp only [nameB, Bool.and_eq_true, decide_eq_true_eq] at h
  omega
theorem keyB_spec {t : Int} {s : List UInt8} (h : keyB t s = true) : 1 ≤ t ∧ t ≤ 5 ∧ s.length ≤ 64 := by
  simp only [keyB, Bool.and_eq_true, decide_eq_true_eq, Bool.or_eq_true, beq_iff_eq] at h
  refine ⟨h.1.1, h.1.2, ?_⟩
  rcases h.2 with h | h
  · subst h; decide
  · exact nameB_len h
theorem statusB_spec {t : Int} {s : List UInt8} {q : Int} {ok : Bool} {d : List UInt8} (h : statusB t s q ok d = true) : 1 ≤ t ∧ t ≤ 5 ∧ s.length ≤ 64 ∧ 0 < q ∧ d.length ≤ 256 ∧ (ok = true → d = []) := by
  simp only [statusB, Bool.and_eq_true, decide_eq_true_eq, Bool.or_eq_true, Bool.not_eq_true', beq_iff_eq] at h
  obtain ⟨⟨⟨⟨h1, _⟩, h3⟩, h4⟩, h5⟩ := h
  obtain ⟨a, b, c⟩ := keyB_spec h1
  refine ⟨a, b, c, h3, by omega, fun e => ?_⟩
  rcases h5 with h5 | h5
  · rw [e] at h5; cases h5
  · exact h5
theorem putStatus_any (t : Int) (s : List UInt8) (q : Nat) (ok : Bool) (d : List UInt8) (hs : s.length ≤ 9223372036854775807) (hq : q < 18446744073709551616) (w : World) :
    Calls Tryd.prog 19 #[.agg #[.int .i64 t, .string (B s), .int .u64 q, .bool ok, .string (B d)]] w fun e w' => e = .returned (.tuple #[.string (B (if statusB t s q ok d then statusBytes t.toNat s q ok d else [])), .bool (statusB t s q ok d)]) ∧ Below w.heap.size w w' := by
  cases h : statusB t s q ok d with
  | false => simpa using putStatus_no t s q ok d hs h w
  | true =>
    obtain ⟨h1, h2, h3, h4, h5, h6⟩ := statusB_spec h
    obtain ⟨n, rfl⟩ : ∃ n : Nat, t = n := ⟨t.toNat, by omega⟩
    simp only [if_true, Int.toNat_natCast]
    cases ok with
    | true =>
      have := h6 rfl; subst this
      exact putStatus_ok n s q (by omega) hq (by omega) (by omega) (by omega) h w
    | false =>
      by_cases hd : d = []
      · subst hd; exact putStatus_plain n s q (by omega) hq (by omega) (by omega) (by omega) h w
      · exact putStatus_detail n s q (by omega) hq (by omega) (by omega) (by omega) d (by omega) hd h w
end Go.Proofs.YtbdacbcpniegiaaDoor
namespace Go.Proofs.YtbdacbcpniegiaaDoor
open Go Go.RowKit Go.Proofs Go.Sx
set_option maxHeartbeats 4000000
set_option maxRecDepth 100000
set_option linter.unusedSimpArgs false
set_option linter.unusedVariables false
theorem strEq_to {P P' : Program} {t : TypeId} {x y : Array Value} {r : Bool} (h : P' = P) (k : StrEq P t x y r) : StrEq P' t x y r := h ▸ k
def cmpMark (a : Int) (s : List UInt8) (q : Int) (b : Int) (t : List UInt8) (r : Int) : Int := if cmpKey a s b t ≠ 0 then cmpKey a s b t else cmpI q r
theorem markOrder_any (a b q r st sr : Int) (s t d e : List UInt8) (w : World) :
    Calls Tryd.prog 82 #[.agg #[.int .i64 a, .string (B s), .int .u64 q, .int .i64 st, .string (B d)], .agg #[.int .i64 b, .string (B t), .int .u64 r, .int .i64 sr, .string (B e)]] w fun x w' => x = .returned (.int .i64 (cmpMark a s q b t r)) ∧ Below w.heap.size w w' := by
  refine calls_pureK (args := [.agg #[.int .i64 a, .string (B s), .int .u64 q, .int .i64 st, .string (B d)], .agg #[.int .i64 b, .string (B t), .int .u64 r, .int .i64 sr, .string (B e)]]) w Tryd.func82 rfl Tryd.ntmps82 (by simp) ?_
  intro X K hX hK
  have hnt : X.nt = 17 := by rw [hX]
  have hwi : X.wi = w := by rw [hX]
  have hP : X.P = Tryd.prog := by rw [hX]
  have hown : X.own = [] := by rw [hX]
  have hbl : X.base.length = 0 := by rw [hX]; rfl
  clear hX
  have hT : fieldOff X.P 62 0 = some 0 ∧ aggOf X.P 26 = some true ∧ szOf X.P 26 = some 2 ∧ calleeOk X.P 63 = true ∧ fieldOff X.P 62 1 = some 2 ∧ aggOf X.P 22 = some false ∧ szOf X.P 22 = some 1 ∧ calleeOk X.P 86 = true ∧ elemSz X.P 51 = some (3, 1) ∧ zeroCells X.P 3 = some [(Value.int IntKind.i64 0)] ∧ calleeOk X.P 119 = true := by rw [hP]; exact ⟨Ty.fo62_0, Ty.ag26, Ty.sz26, Ty.co63, Ty.fo62_1, Ty.ag22, Ty.sz22, Ty.co86, Ty.el51, Ty.ze3, Ty.co119⟩
  have hnt1 := True.intro; have hT1 := True.intro; have hU1P := True.intro
  repeat' (first
    | (refine SX.seqK ?_; intro N hN)
    | ((first | (refine SX.ops ?_) | (refine SX.planT (id := 1) [.q [(0, [2]), (1, [5]), (2, [3]), (3, [7]), (4, [6, 8]), (5, [2]), (6, [10]), (7, [3]), (8, [12]), (9, [11, 13])] none, .s 10, .s 11, .s 12] ?_ ?_ ?_; (focus first | (rw [hP]; kernel_rfl) | (rw [hU1P, hP]; kernel_rfl)); (focus kernel_rfl))); simp only [GA, ↓GB, List.filterMap_cons, eq_self, BEq.rfl, simprocAttr, hnt, hT, hnt1, hT1, hU1P])
    | ((first | refine SX.skip ?_ | refine SX.exit ?_ | refine SX.label ?_); try simp only [GA, ↓GB, List.filterMap_cons, eq_self, BEq.rfl, simprocAttr])
    | (refine SX.cond rfl (fun hb => ?_) (fun hb => ?_) <;> ((first | cases hb | (simp only [decide_eq_true_eq, decide_eq_false_iff_not, beq_iff_eq, beq_eq_false_iff_ne, bne_iff_ne, Bool.and_eq_true, Bool.or_eq_true, Bool.not_eq_true', Bool.not_eq_false', Bool.and_eq_false_iff, Bool.or_eq_false_iff, Int.not_lt, Int.not_le] at hb) | skip) <;> (first | (exfalso; omega) | skip)))
    | (refine SX.ret ?_; try simp only [GA, ↓GB, List.filterMap_cons, eq_self, BEq.rfl, simprocAttr])
    | (refine hN _ ?_; clear hN N)
    | ((first | refine hK1 _ _ (FinI.ret3 ?_) | refine hK1 _ _ (FinI.nrm3 ?_)); (repeat (clear hN N)); clear hK1 K1; simp only [GA, ↓GB, List.filterMap_cons, eq_self, BEq.rfl, simprocAttr, finP_s, hnt, hT, hnt1, hT1, hU1P])
    | (refine hK _ _ (Fin.res rfl hown ?_); simp only [GA, ↓GB, List.filterMap_cons, eq_self, BEq.rfl, simprocAttr, f_a, f_b, f_n, f_c, f_B, f_v, f_g, f_0, f_1, f_2, hT, hwi, hnt1, hT1, hU1P]; intro w' hbel; refine Done.out ?_)
    | (clear hN N; first | (refine hN _ ?_; clear hN N) | (clear hN N; first | (refine hN _ ?_; clear hN N) | (clear hN N; first | (refine hN _ ?_; clear hN N) | (clear hN N; first | (refine hN _ ?_; clear hN N) | (clear hN N; first | (refine hN _ ?_; clear hN N) | (refine hN _ ?_; clear hN N))))))
    | (refine bif2.mk (fun hb => ?_) (fun hb => ?_) <;> (try simp only [hb, GA, ↓GB, List.filterMap_cons, eq_self, BEq.rfl, simprocAttr, hnt, hT, hnt1, hT1, hU1P]) <;> ((first | cases hb | (simp only [decide_eq_true_eq, decide_eq_false_iff_not, beq_iff_eq, beq_eq_false_iff_ne, bne_iff_ne, Bool.and_eq_true, Bool.or_eq_true, Bool.not_eq_true', Bool.not_eq_false', Bool.and_eq_false_iff, Bool.or_eq_false_iff, Int.not_lt, Int.not_le] at hb) | skip) <;> (first | (exfalso; omega) | skip)))
    | ((first | (refine CallVC.pv hP (order_any a b s t) rfl ?_) | (refine CallQ.pv hP (order_any a b s t) rfl ?_) | (refine CallVC.pv hP (compare_u64 q r) rfl ?_) | (refine CallQ.pv hP (compare_u64 q r) rfl ?_)); simp only [GA, ↓GB, List.filterMap_cons, eq_self, BEq.rfl, simprocAttr, hnt, hT, hnt1, hT1, hU1P])
    | (refine CallVC.inline (f := 119) ?_ rfl Tryd.ntmps119 rfl ?_ ?_; (focus rw [hP]; exact Tryd.func119); (focus simp); have hT1 : X.P.underlying 51 = some (TypeDesc.slice 3) ∧ elemSz X.P 51 = some (3, 1) ∧ aggOf X.P 3 = some false ∧ szOf X.P 3 = some 1 := (by rw [hP]; exact ⟨Tryd.underlying51, Ty.el51, Ty.ag3, Ty.sz3⟩); intro X1 K1 hU1 hnt1 hbl1 hK1; have hU1P := hU1.P; simp only [GA, ↓GB, List.filterMap_cons, eq_self, BEq.rfl, simprocAttr] at hbl1 ⊢)
    | (refine SX.loopN 3 ?_)
    | (refine SXr.stepK ?_; intro N hN)
    | ((first | (refine CallVC.pv (hU1P.trans hP) (order_any a b s t) rfl ?_) | (refine CallQ.pv (hU1P.trans hP) (order_any a b s t) rfl ?_) | (refine CallVC.pv (hU1P.trans hP) (compare_u64 q r) rfl ?_) | (refine CallQ.pv (hU1P.trans hP) (compare_u64 q r) rfl ?_)); simp only [GA, ↓GB, List.filterMap_cons, eq_self, BEq.rfl, simprocAttr, hnt, hT, hnt1, hT1, hU1P])
    | (refine SX.block ?_)
    | (refine and_mk ?_ ?_; (focus first | decide | omega | rfl | assumption | (simp only [List.length_append, List.length_cons, List.length_nil, B_size]; omega) | (simp; done)))
    | (refine And.intro ?_ ?_))
  all_goals (try refine Done.mk ?_)
  all_goals (refine ⟨?_, hbel⟩; simp_all [cmpMark])
theorem begin2_any (a b q r st sr : Int) (s t d e : List UInt8) (w : World) :
    Calls Tryd.prog 85 #[.agg #[.int .i64 a, .string (B s), .int .u64 q, .int .i64 st, .string (B d)], .agg #[.int .i64 b, .string (B t), .int .u64 r, .int .i64 sr, .string (B e)]] w fun x w' => x = .returned (.int .i64 (cmpI q r)) ∧ Below w.heap.size w w' := by
  refine calls_pureK (args := [.agg #[.int .i64 a, .string (B s), .int .u64 q, .int .i64 st, .string (B d)], .agg #[.int .i64 b, .string (B t), .int .u64 r, .int .i64 sr, .string (B e)]]) w Tryd.func85 rfl Tryd.ntmps85 (by simp) ?_
  intro X K hX hK
  have hnt : X.nt = 10 := by rw [hX]
  have hwi : X.wi = w := by rw [hX]
  have hP : X.P = Tryd.prog := by rw [hX]
  have hown : X.own = [] := by rw [hX]
  have hbl : X.base.length = 0 := by rw [hX]; rfl
  clear hX
  have hT : fieldOff X.P 62 1 = some 2 ∧ aggOf X.P 22 = some false ∧ szOf X.P 22 = some 1 ∧ calleeOk X.P 86 = true := by rw [hP]; exact ⟨Ty.fo62_1, Ty.ag22, Ty.sz22, Ty.co86⟩
  repeat' (first
    | (refine SX.seqK ?_; intro N hN)
    | ((first | (refine SX.ops ?_)); simp only [GA, ↓GB, List.filterMap_cons, eq_self, BEq.rfl, simprocAttr, hnt, hT])
    | ((first | refine SX.skip ?_ | refine SX.exit ?_ | refine SX.label ?_); try simp only [GA, ↓GB, List.filterMap_cons, eq_self, BEq.rfl, simprocAttr])
    | (refine SX.cond rfl (fun hb => ?_) (fun hb => ?_) <;> ((first | cases hb | (simp only [decide_eq_true_eq, decide_eq_false_iff_not, beq_iff_eq, beq_eq_false_iff_ne, bne_iff_ne, Bool.and_eq_true, Bool.or_eq_true, Bool.not_eq_true', Bool.not_eq_false', Bool.and_eq_false_iff, Bool.or_eq_false_iff, Int.not_lt, Int.not_le] at hb) | skip) <;> (first | (exfalso; omega) | skip)))
    | (refine SX.ret ?_; try simp only [GA, ↓GB, List.filterMap_cons, eq_self, BEq.rfl, simprocAttr])
    | (refine hN _ ?_; clear hN N)
    | (refine hK _ _ (Fin.res rfl hown ?_); simp only [GA, ↓GB, List.filterMap_cons, eq_self, BEq.rfl, simprocAttr, f_a, f_b, f_n, f_c, f_B, f_v, f_g, f_0, f_1, f_2, hT, hwi]; intro w' hbel; refine Done.out ?_)
    | (clear hN N; first | (refine hN _ ?_; clear hN N) | (clear hN N; first | (refine hN _ ?_; clear hN N) | (clear hN N; first | (refine hN _ ?_; clear hN N) | (clear hN N; first | (refine hN _ ?_; clear hN N) | (clear hN N; first | (refine hN _ ?_; clear hN N) | (refine hN _ ?_; clear hN N))))))
    | (refine bif2.mk (fun hb => ?_) (fun hb => ?_) <;> (try simp only [hb, GA, ↓GB, List.filterMap_cons, eq_self, BEq.rfl, simprocAttr, hnt, hT]) <;> ((first | cases hb | (simp only [decide_eq_true_eq, decide_eq_false_iff_not, beq_iff_eq, beq_eq_false_iff_ne, bne_iff_ne, Bool.and_eq_true, Bool.or_eq_true, Bool.not_eq_true', Bool.not_eq_false', Bool.and_eq_false_iff, Bool.or_eq_false_iff, Int.not_lt, Int.not_le] at hb) | skip) <;> (first | (exfalso; omega) | skip)))
    | ((first | (refine CallVC.pv hP (compare_u64 q r) rfl ?_) | (refine CallQ.pv hP (compare_u64 q r) rfl ?_)); simp only [GA, ↓GB, List.filterMap_cons, eq_self, BEq.rfl, simprocAttr, hnt, hT])
    | (refine SX.block ?_)
    | (refine and_mk ?_ ?_; (focus first | decide | omega | rfl | assumption | (simp only [List.length_append, List.length_cons, List.length_nil, B_size]; omega) | (simp; done)))
    | (refine And.intro ?_ ?_))
  all_goals (try refine Done.mk ?_)
  all_goals first | exact hbel | exact ⟨rfl, hbel⟩
theorem erase1_any (a q st : Int) (s d : List UInt8) (w : World) :
    Calls Tryd.prog 93 #[.agg #[.int .i64 a, .string (B s), .int .u64 q, .int .i64 st, .string (B d)]] w fun x w' => x = .returned (.bool (decide (st = 1))) ∧ Below w.heap.size w w' := by
  refine calls_pureK (args := [.agg #[.int .i64 a, .string (B s), .int .u64 q, .int .i64 st, .string (B d)]]) w Tryd.func93 rfl Tryd.ntmps93 (by simp) ?_
  intro X K hX hK
  have hnt : X.nt = 6 := by rw [hX]
  have hwi : X.wi = w := by rw [hX]
  have hP : X.P = Tryd.prog := by rw [hX]
  have hown : X.own = [] := by rw [hX]
  have hbl : X.base.length = 0 := by rw [hX]; rfl
  clear hX
  have hT : fieldOff X.P 62 2 = some 3 ∧ aggOf X.P 3 = some false ∧ szOf X.P 3 = some 1 := by rw [hP]; exact ⟨Ty.fo62_2, Ty.ag3, Ty.sz3⟩
  repeat' (first
    | (refine SX.seqK ?_; intro N hN)
    | ((first | (refine SX.ops ?_)); simp only [GA, ↓GB, List.filterMap_cons, eq_self, BEq.rfl, simprocAttr, hnt, hT])
    | ((first | refine SX.skip ?_ | refine SX.exit ?_ | refine SX.label ?_); try simp only [GA, ↓GB, List.filterMap_cons, eq_self, BEq.rfl, simprocAttr])
    | (refine SX.cond rfl (fun hb => ?_) (fun hb => ?_) <;> ((first | cases hb | (simp only [decide_eq_true_eq, decide_eq_false_iff_not, beq_iff_eq, beq_eq_false_iff_ne, bne_iff_ne, Bool.and_eq_true, Bool.or_eq_true, Bool.not_eq_true', Bool.not_eq_false', Bool.and_eq_false_iff, Bool.or_eq_false_iff, Int.not_lt, Int.not_le] at hb) | skip) <;> (first | (exfalso; omega) | skip)))
    | (refine SX.ret ?_; try simp only [GA, ↓GB, List.filterMap_cons, eq_self, BEq.rfl, simprocAttr])
    | (refine hN _ ?_; clear hN N)
    | (refine hK _ _ (Fin.res rfl hown ?_); simp only [GA, ↓GB, List.filterMap_cons, eq_self, BEq.rfl, simprocAttr, f_a, f_b, f_n, f_c, f_B, f_v, f_g, f_0, f_1, f_2, hT, hwi]; intro w' hbel; refine Done.out ?_)
    | (clear hN N; first | (refine hN _ ?_; clear hN N) | (clear hN N; first | (refine hN _ ?_; clear hN N) | (clear hN N; first | (refine hN _ ?_; clear hN N) | (clear hN N; first | (refine hN _ ?_; clear hN N) | (clear hN N; first | (refine hN _ ?_; clear hN N) | (refine hN _ ?_; clear hN N))))))
    | (refine bif2.mk (fun hb => ?_) (fun hb => ?_) <;> (try simp only [hb, GA, ↓GB, List.filterMap_cons, eq_self, BEq.rfl, simprocAttr, hnt, hT]) <;> ((first | cases hb | (simp only [decide_eq_true_eq, decide_eq_false_iff_not, beq_iff_eq, beq_eq_false_iff_ne, bne_iff_ne, Bool.and_eq_true, Bool.or_eq_true, Bool.not_eq_true', Bool.not_eq_false', Bool.and_eq_false_iff, Bool.or_eq_false_iff, Int.not_lt, Int.not_le] at hb) | skip) <;> (first | (exfalso; omega) | skip)))
    | (refine SX.block ?_)
    | (refine and_mk ?_ ?_; (focus first | decide | omega | rfl | assumption | (simp only [List.length_append, List.length_cons, List.length_nil, B_size]; omega) | (simp; done)))
    | (refine And.intro ?_ ?_))
  all_goals (try refine Done.mk ?_)
  all_goals first | exact hbel | exact ⟨rfl, hbel⟩
theorem begin1_ctr (a q st b r : Int) (s d t : List UInt8) : Ctr Tryd.prog [] 80 [.cells [.v (.int .i64 b), .v (.string (B t))] 26, .cells [.v (.int .u64 r)] 22]
    [.one (.agg [.v (.int .i64 a), .v (.string (B s)), .v (.int .u64 q), .v (.int .i64 st), .v (.string (B d))]), .one (.c (.loc 0 0)), .one (.c (.loc 1 0))]
    (fun os v => os = [.cells [.v (.int .i64 b), .v (.string (B t))] 26, .cells [.v (.int .u64 r)] 22] ∧ v = vv (.bool ((a == b && s == t) && decide (r ≤ q)))) := by
  refine Ctr.less ?_
  intro X0 hP0 hG0 N0 hN0
  refine CallVC.inline (f := 80) (by rw [hP0]; exact Tryd.func80) rfl Tryd.ntmps80 rfl (by simp) ?_
  intro X K hU hnt hbl hK
  have hP : X.P = Tryd.prog := by rw [hU.P, hP0]
  have hG := hG0.under hU
  have hT : fieldOff X.P 62 0 = some 0 ∧ aggOf X.P 26 = some true ∧ szOf X.P 26 = some 2 ∧ fieldOff X.P 62 1 = some 2 ∧ aggOf X.P 22 = some false ∧ szOf X.P 22 = some 1 := by rw [hP]; exact ⟨Ty.fo62_0, Ty.ag26, Ty.sz26, Ty.fo62_1, Ty.ag22, Ty.sz22⟩
  simp only [GA, ↓GB, List.filterMap_cons, eq_self, BEq.rfl, simprocAttr] at hbl ⊢
  repeat' (first
    | (refine SX.seqK ?_; intro N hN)
    | ((first | (refine SX.ops ?_)); simp only [GA, ↓GB, List.filterMap_cons, eq_self, BEq.rfl, simprocAttr, hnt, hT])
    | ((first | refine SX.skip ?_ | refine SX.exit ?_ | refine SX.label ?_); try simp only [GA, ↓GB, List.filterMap_cons, eq_self, BEq.rfl, simprocAttr])
    | (refine SX.cond rfl (fun hb => ?_) (fun hb => ?_) <;> ((first | cases hb | (simp only [decide_eq_true_eq, decide_eq_false_iff_not, beq_iff_eq, beq_eq_false_iff_ne, bne_iff_ne, Bool.and_eq_true, Bool.or_eq_true, Bool.not_eq_true', Bool.not_eq_false', Bool.and_eq_false_iff, Bool.or_eq_false_iff, Int.not_lt, Int.not_le] at hb) | skip) <;> (first | (exfalso; omega) | skip)))
    | (refine SX.ret ?_; try simp only [GA, ↓GB, List.filterMap_cons, eq_self, BEq.rfl, simprocAttr])
    | (refine hN _ ?_; clear hN N)
    | ((first | refine hK _ _ (FinI.ret3 ?_) | refine hK _ _ (FinI.nrm3 ?_)); simp only [GA, ↓GB, List.filterMap_cons, eq_self, BEq.rfl, simprocAttr, finP_s, hnt, hT]; refine Done.out ?_)
    | (clear hN N; first | (refine hN _ ?_; clear hN N) | (clear hN N; first | (refine hN _ ?_; clear hN N) | (clear hN N; first | (refine hN _ ?_; clear hN N) | (clear hN N; first | (refine hN _ ?_; clear hN N) | (clear hN N; first | (refine hN _ ?_; clear hN N) | (refine hN _ ?_; clear hN N))))))
    | (refine bif2.mk (fun hb => ?_) (fun hb => ?_) <;> (try simp only [hb, GA, ↓GB, List.filterMap_cons, eq_self, BEq.rfl, simprocAttr, hnt, hT]) <;> ((first | cases hb | (simp only [decide_eq_true_eq, decide_eq_false_iff_not, beq_iff_eq, beq_eq_false_iff_ne, bne_iff_ne, Bool.and_eq_true, Bool.or_eq_true, Bool.not_eq_true', Bool.not_eq_false', Bool.and_eq_false_iff, Bool.or_eq_false_iff, Int.not_lt, Int.not_le] at hb) | skip) <;> (first | (exfalso; omega) | skip)))
    | (refine ⟨_, strEq_to hP (Ty.eqS26 _ _ _ _), ?_⟩)
    | (refine SX.block ?_)
    | (refine and_mk ?_ ?_; (focus first | decide | omega | rfl | assumption | (simp only [List.length_append, List.length_cons, List.length_nil, B_size]; omega) | (simp; done)))
    | (refine And.intro ?_ ?_))
  all_goals (try refine Done.mk ?_)
  all_goals ((refine hN0 _ _ ⟨[0, 1], _, _, ?_, ?_, ?_, ⟨rfl, rfl⟩⟩; (focus exact LeR.of rfl trivial (by simp only [GA, ↓GB, List.filterMap_cons, eq_self, BEq.rfl, simprocAttr, List.getD_cons_zero, List.getD_cons_succ, or_false, false_or, or_self, or_true, true_or, decide_true]) (by decide) rfl rfl rfl); rotate_left; (focus rfl)); refine congrArg (fun b => vv (Value.bool b)) ?_; clear hK hN0 hG0; simp_all [Bool.and_assoc] <;> (intro e1 e2; rcases hb with hb | hb <;> contradiction))
theorem begin3_ctr (a q st b r su : Int) (s d t e : List UInt8) : Ctr Tryd.prog [] 88 [.cells [.v (.int .i64 b), .v (.string (B t)), .v (.int .u64 r), .v (.int .i64 su), .v (.string (B e))] 62]
    [.one (.agg [.v (.int .i64 a), .v (.string (B s)), .v (.int .u64 q), .v (.int .i64 st), .v (.string (B d))]), .one (.c (.loc 0 0))]
    (fun os v => os = [.cells [.v (.int .i64 b), .v (.string (B t)), .v (.int .u64 r), .v (.int .i64 su), .v (.string (B e))] 62] ∧ v = vv (.bool (a == b && s == t && q == r && st == su && d == e))) := by
  refine Ctr.less ?_
  intro X0 hP0 hG0 N0 hN0
  refine CallVC.inline (f := 88) (by rw [hP0]; exact Tryd.func88) rfl Tryd.ntmps88 rfl (by simp) ?_
  intro X K hU hnt hbl hK
  have hP : X.P = Tryd.prog := by rw [hU.P, hP0]
  have hG := hG0.under hU
  have hT : aggOf X.P 62 = some true ∧ szOf X.P 62 = some 5 := by rw [hP]; exact ⟨Ty.ag62, Ty.sz62⟩
  simp only [GA, ↓GB, List.filterMap_cons, eq_self, BEq.rfl, simprocAttr] at hbl ⊢
  repeat' (first
    | (refine SX.seqK ?_; intro N hN)
    | ((first | (refine SX.ops ?_)); simp only [GA, ↓GB, List.filterMap_cons, eq_self, BEq.rfl, simprocAttr, hnt, hT])
    | ((first | refine SX.skip ?_ | refine SX.exit ?_ | refine SX.label ?_); try simp only [GA, ↓GB, List.filterMap_cons, eq_self, BEq.rfl, simprocAttr])
    | (refine SX.cond rfl (fun hb => ?_) (fun hb => ?_) <;> ((first | cases hb | (simp only [decide_eq_true_eq, decide_eq_false_iff_not, beq_iff_eq, beq_eq_false_iff_ne, bne_iff_ne, Bool.and_eq_true, Bool.or_eq_true, Bool.not_eq_true', Bool.not_eq_false', Bool.and_eq_false_iff, Bool.or_eq_false_iff, Int.not_lt, Int.not_le] at hb) | skip) <;> (first | (exfalso; omega) | skip)))
    | (refine SX.ret ?_; try simp only [GA, ↓GB, List.filterMap_cons, eq_self, BEq.rfl, simprocAttr])
    | (refine hN _ ?_; clear hN N)
    | ((first | refine hK _ _ (FinI.ret3 ?_) | refine hK _ _ (FinI.nrm3 ?_)); simp only [GA, ↓GB, List.filterMap_cons, eq_self, BEq.rfl, simprocAttr, finP_s, hnt, hT]; refine Done.out ?_)
    | (clear hN N; first | (refine hN _ ?_; clear hN N) | (clear hN N; first | (refine hN _ ?_; clear hN N) | (clear hN N; first | (refine hN _ ?_; clear hN N) | (clear hN N; first | (refine hN _ ?_; clear hN N) | (clear hN N; first | (refine hN _ ?_; clear hN N) | (refine hN _ ?_; clear hN N))))))
    | (refine bif2.mk (fun hb => ?_) (fun hb => ?_) <;> (try simp only [hb, GA, ↓GB, List.filterMap_cons, eq_self, BEq.rfl, simprocAttr, hnt, hT]) <;> ((first | cases hb | (simp only [decide_eq_true_eq, decide_eq_false_iff_not, beq_iff_eq, beq_eq_false_iff_ne, bne_iff_ne, Bool.and_eq_true, Bool.or_eq_true, Bool.not_eq_true', Bool.not_eq_false', Bool.and_eq_false_iff, Bool.or_eq_false_iff, Int.not_lt, Int.not_le] at hb) | skip) <;> (first | (exfalso; omega) | skip)))
    | (refine ⟨_, strEq_to hP (Ty.eqS62 _ _ _ _ _ _ _ _ _ _), ?_⟩)
    | (refine SX.block ?_)
    | (refine and_mk ?_ ?_; (focus first | decide | omega | rfl | assumption | (simp only [List.length_append, List.length_cons, List.length_nil, B_size]; omega) | (simp; done)))
    | (refine And.intro ?_ ?_))
  all_goals (try refine Done.mk ?_)
  all_goals ((refine hN0 _ _ ⟨[0], _, _, ?_, ?_, ?_, ⟨rfl, rfl⟩⟩; (focus exact LeR.of rfl trivial (by simp only [GA, ↓GB, List.filterMap_cons, eq_self, BEq.rfl, simprocAttr, List.getD_cons_zero, List.getD_cons_succ, or_false, false_or, or_self, or_true, true_or, decide_true]) (by decide) rfl rfl rfl); rotate_left; (focus rfl)); refine congrArg (fun b => vv (Value.bool b)) ?_; clear hK hN0 hG0; simp_all [Bool.and_assoc] <;> (intro e1 e2; rcases hb with hb | hb <;> contradiction))
end Go.Proofs.YtbdacbcpniegiaaDoor
namespace Go.Proofs.YtbdacbcpniegiaaDoor
open Go Go.RowKit Go.Proofs Go.Sx
set_option maxHeartbeats 4000000
set_option maxRecDepth 100000
set_option linter.unusedSimpArgs false
set_option linter.unusedVariables false
structure Mk where
  t : Int
  s : List UInt8
  q : Int
  st : Int
  d : List UInt8
deriving DecidableEq, Inhabited
def Mk.cells (m : Mk) : List Value := [.int .i64 m.t, .string (B m.s), .int .u64 m.q, .int .i64 m.st, .string (B m.d)]
def mks (ms : List Mk) : List Value := ms.flatMap Mk.cells
theorem mks_cons (m : Mk) (ms : List Mk) : mks (m :: ms) = m.cells ++ mks ms := rfl
theorem mks_append (a b : List Mk) : mks (a ++ b) = mks a ++ mks b := by simp [mks]
theorem mks_length : ∀ ms : List Mk, (mks ms).length = ms.length * 5
  | [] => rfl
  | m :: ms => by rw [mks_cons, List.length_append, mks_length ms]; simp [Mk.cells]; omega
theorem mks_drop : ∀ (i : Nat) (ms : List Mk), (mks ms).drop (i * 5) = mks (ms.drop i)
  | 0, ms => by simp
  | i + 1, [] => by simp [mks]
  | i + 1, m :: ms => by
    rw [mks_cons, show (i + 1) * 5 = m.cells.length + i * 5 by simp [Mk.cells]; omega, List.drop_append, Nat.add_sub_cancel_left, mks_drop i ms, List.drop_of_length_le (by omega)]
    rfl
theorem mks_take : ∀ (i : Nat) (ms : List Mk), (mks ms).take (i * 5) = mks (ms.take i)
  | 0, ms => by simp [mks]
  | i + 1, [] => by simp [mks]
  | i + 1, m :: ms => by
    rw [mks_cons, show (i + 1) * 5 = m.cells.length + i * 5 by simp [Mk.cells]; omega, List.take_append, List.take_succ_cons, mks_cons, Nat.add_sub_cancel_left, mks_take i ms, List.take_of_length_le (by omega)]
theorem mks_at (ms : List Mk) (i : Nat) (h : i < ms.length) : ((mks ms).drop (i * 5)).take 5 = (ms.getD i default).cells := by
  rw [mks_drop, List.drop_eq_getElem_cons h, mks_cons, List.getD_eq_getElem?_getD, List.getElem?_eq_getElem h]
  simp [Mk.cells]
@[reducible] def mrow (ms : List Mk) : LO := .row 62 5 ms.length (mks ms)
def idxI (p : Mk → Bool) (ms : List Mk) : Int := match ms.findIdx? p with | some i => i | none => -1
theorem idxN (p : Mk → Bool) (ms : List Mk) (i : Nat) (hi : i < ms.length) (hp : p (ms.getD i default) = true) (hn : ∀ j, j < i → p (ms.getD j default) = false) : idxI p ms = i := by
  have : ms.findIdx? p = some i := by
    rw [List.findIdx?_eq_some_iff_getElem]
    refine ⟨hi, by simpa [List.getD_eq_getElem?_getD, List.getElem?_eq_getElem hi] using hp, fun j hj => ?_⟩
    have := hn j hj
    rw [List.getD_eq_getElem?_getD, List.getElem?_eq_getElem (by omega)] at this
    simpa using this
  simp [idxI, this]
theorem idxNone (p : Mk → Bool) (ms : List Mk) (hn : ∀ j, j < ms.length → p (ms.getD j default) = false) : idxI p ms = -1 := by
  have : ms.findIdx? p = none := by
    rw [List.findIdx?_eq_none_iff]
    intro x hx
    obtain ⟨j, hj, rfl⟩ := List.mem_iff_getElem.1 hx
    have := hn j hj
    rw [List.getD_eq_getElem?_getD, List.getElem?_eq_getElem hj] at this
    simpa using this
  simp [idxI, this]
def isAt (b : Int) (t : List UInt8) (r : Int) (m : Mk) : Bool := (m.t == b && m.s == t) && decide (r ≤ m.q)
def isMk (b : Int) (t : List UInt8) (r su : Int) (e : List UInt8) (m : Mk) : Bool := m.t == b && m.s == t && m.q == r && m.st == su && m.d == e
def isPend (m : Mk) : Bool := decide (m.st = 1)
theorem indexFunc1 (ms : List Mk) (hms : ms.length ≤ 1000000) (b r : Int) (t : List UInt8) : Ctr Tryd.prog [] 130 [mrow ms, .cells [.v (.int .i64 b), .v (.string (B t))] 26, .cells [.v (.int .u64 r)] 22] [.one (.c (.row 0)), .one (.c (.clo 80 [] [.loc 1 0, .loc 2 0]))]
    (fun os v => os = [mrow ms, .cells [.v (.int .i64 b), .v (.string (B t))] 26, .cells [.v (.int .u64 r)] 22] ∧ v = vv (.int .i64 (idxI (isAt b t r) ms))) := by
  have hrun : ∀ m : Mk, Ctr Tryd.prog [] 80 [.cells [.v (.int .i64 b), .v (.string (B t))] 26, .cells [.v (.int .u64 r)] 22] [.one (.agg [.v (.int .i64 m.t), .v (.string (B m.s)), .v (.int .u64 m.q), .v (.int .i64 m.st), .v (.string (B m.d))]), .one (.c (.loc 0 0)), .one (.c (.loc 1 0))]
    (fun os v => os = [.cells [.v (.int .i64 b), .v (.string (B t))] 26, .cells [.v (.int .u64 r)] 22] ∧ v = vv (.bool ((isAt b t r) m))) := fun m => begin1_ctr _ _ _ _ _ _ _ _
  intro X0 hP0 hG0 N0 hN0
  refine CallVC.inline (f := 130) (by rw [hP0]; exact Tryd.func130) rfl Tryd.ntmps130 rfl (by simp) ?_
  intro X K hU hnt hbl hK
  have hP : X.P = Tryd.prog := by rw [hU.P, hP0]
  have hG := hG0.under hU
  have hT : X.P.underlying 59 = some (TypeDesc.slice 62) ∧ elemSz X.P 59 = some (62, 5) ∧ aggOf X.P 62 = some true ∧ szOf X.P 62 = some 5 := by rw [hP]; exact ⟨Tryd.underlying59, Ty.el59, Ty.ag62, Ty.sz62⟩
  simp only [GA, ↓GB, List.filterMap_cons, eq_self, BEq.rfl, simprocAttr] at hbl ⊢
  have hc : calleeOk X.P 80 = true := by rw [hP]; kernel_rfl
  repeat' (first
    | (refine SX.seqK ?_; intro N hN)
    | ((first | (refine SX.ops ?_)); simp only [GA, ↓GB, List.filterMap_cons, eq_self, BEq.rfl, simprocAttr, hnt, hT, hc])
    | ((first | refine SX.skip ?_ | refine SX.exit ?_ | refine SX.label ?_); try simp only [GA, ↓GB, List.filterMap_cons, eq_self, BEq.rfl, simprocAttr])
    | (refine SX.cond rfl (fun hb => ?_) (fun hb => ?_) <;> ((first | cases hb | (simp only [decide_eq_true_eq, decide_eq_false_iff_not, beq_iff_eq, beq_eq_false_iff_ne, bne_iff_ne, Bool.and_eq_true, Bool.or_eq_true, Bool.not_eq_true', Bool.not_eq_false', Bool.and_eq_false_iff, Bool.or_eq_false_iff, Int.not_lt, Int.not_le] at hb) | skip) <;> (first | (exfalso; omega) | skip)))
    | (refine SX.ret ?_; try simp only [GA, ↓GB, List.filterMap_cons, eq_self, BEq.rfl, simprocAttr])
    | (refine hN _ ?_; clear hN N)
    | ((first | refine hK _ _ (FinI.ret3 ?_) | refine hK _ _ (FinI.nrm3 ?_)); simp only [GA, ↓GB, List.filterMap_cons, eq_self, BEq.rfl, simprocAttr, finP_s, hnt, hT, hc]; refine Done.out ?_)
    | (clear hN N; first | (refine hN _ ?_; clear hN N) | (clear hN N; first | (refine hN _ ?_; clear hN N) | (clear hN N; first | (refine hN _ ?_; clear hN N) | (clear hN N; first | (refine hN _ ?_; clear hN N) | (clear hN N; first | (refine hN _ ?_; clear hN N) | (refine hN _ ?_; clear hN N))))))
    | (refine bif2.mk (fun hb => ?_) (fun hb => ?_) <;> (try simp only [hb, GA, ↓GB, List.filterMap_cons, eq_self, BEq.rfl, simprocAttr, hnt, hT, hc]) <;> ((first | cases hb | (simp only [decide_eq_true_eq, decide_eq_false_iff_not, beq_iff_eq, beq_eq_false_iff_ne, bne_iff_ne, Bool.and_eq_true, Bool.or_eq_true, Bool.not_eq_true', Bool.not_eq_false', Bool.and_eq_false_iff, Bool.or_eq_false_iff, Int.not_lt, Int.not_le] at hb) | skip) <;> (first | (exfalso; omega) | skip)))
    | ((first | (refine Ctr.use (hrun (ms.getD i default)) hP ?_ [1,2] ?_ rfl rfl ?_; (focus (intro p hp; cases hp)); (focus (refine LeR.of rfl trivial ?_ ?_ ?_ ?_ ?_ <;> first | decide | (simp only [GA, ↓GB, List.filterMap_cons, eq_self, BEq.rfl, simprocAttr, List.getD_cons_zero, List.getD_cons_succ, or_false, false_or, or_self, or_true, true_or, decide_true]; done))); intro os' s hR; obtain ⟨rfl, rfl⟩ := hR)); simp only [GA, ↓GB, List.filterMap_cons, eq_self, BEq.rfl, simprocAttr, hnt, hT, hc])
    | (refine SX.loop (ι := { i : Nat // i ≤ ms.length ∧ ∀ j, j < i → (isAt b t r) (ms.getD j default) = false }) (fun i => ⟨[(0, .one (.c (.row 0))), (1, .one (.c (.clo 80 [] [.loc 1 0, .loc 2 0]))), (7, vv (.int .i64 ms.length)), (8, vv (.int .i64 i.1))], [mrow ms, .cells [.v (.int .i64 b), .v (.string (B t))] 26, .cells [.v (.int .u64 r)] 22]⟩) (fun i => ms.length - i.1) ⟨0, by omega, fun j hj => absurd hj (Nat.not_lt_zero j)⟩ ⟨[0, 1, 2], (LeR.of (by rw [hbl]; decide) (by simp only [GA, ↓GB, List.filterMap_cons, eq_self, BEq.rfl, simprocAttr, List.getD_cons_zero, List.getD_cons_succ, or_false, false_or, or_self, or_true, true_or, decide_true]) (by simp only [GA, ↓GB, List.filterMap_cons, eq_self, BEq.rfl, simprocAttr, List.getD_cons_zero, List.getD_cons_succ, or_false, false_or, or_self, or_true, true_or, decide_true]) (by decide) (by simp only [GA, ↓GB, List.filterMap_cons, eq_self, BEq.rfl, simprocAttr, List.getD_cons_zero, List.getD_cons_succ, or_false, false_or, or_self, or_true, true_or, decide_true]) (by simp only [GA, ↓GB, List.filterMap_cons, eq_self, BEq.rfl, simprocAttr, List.getD_cons_zero, List.getD_cons_succ, or_false, false_or, or_self, or_true, true_or, decide_true]) (by simp only [GA, ↓GB, List.filterMap_cons, eq_self, BEq.rfl, simprocAttr, List.getD_cons_zero, List.getD_cons_succ, or_false, false_or, or_self, or_true, true_or, decide_true]))⟩ ?_ <;> rintro ⟨i, hi, hno⟩ <;> simp only [] at hi hno ⊢)
    | (refine ⟨(ms.getD i default).cells, rfl, mks_at _ _ (by omega), ?_⟩ <;> simp only [Mk.cells, GA, ↓GB, List.filterMap_cons, eq_self, BEq.rfl, simprocAttr, hnt, hT])
    | (refine SX.block ?_)
    | (refine and_mk ?_ ?_; (focus first | decide | omega | rfl | assumption | (simp only [List.length_append, List.length_cons, List.length_nil, B_size]; omega) | (simp; done)))
    | (refine And.intro ?_ ?_))
  all_goals (try refine Done.mk ?_)
  · exact hN0 _ _ ⟨rfl, by rw [idxN _ _ i (by omega) hb hno]; rfl⟩
  · refine ⟨⟨i + 1, by omega, fun j hj => ?_⟩, [0, 1, 2], (LeR.of (by rw [hbl]; decide) (by simp only [GA, ↓GB, List.filterMap_cons, eq_self, BEq.rfl, simprocAttr, List.getD_cons_zero, List.getD_cons_succ, or_false, false_or, or_self, or_true, true_or, decide_true]; try (rw [wI64 (by omega) (by omega)]; simp)) (by simp only [GA, ↓GB, List.filterMap_cons, eq_self, BEq.rfl, simprocAttr, List.getD_cons_zero, List.getD_cons_succ, or_false, false_or, or_self, or_true, true_or, decide_true]; try (rw [wI64 (by omega) (by omega)]; simp)) (by decide) (by simp only [GA, ↓GB, List.filterMap_cons, eq_self, BEq.rfl, simprocAttr, List.getD_cons_zero, List.getD_cons_succ, or_false, false_or, or_self, or_true, true_or, decide_true]) (by simp only [GA, ↓GB, List.filterMap_cons, eq_self, BEq.rfl, simprocAttr, List.getD_cons_zero, List.getD_cons_succ, or_false, false_or, or_self, or_true, true_or, decide_true]) (by simp only [GA, ↓GB, List.filterMap_cons, eq_self, BEq.rfl, simprocAttr, List.getD_cons_zero, List.getD_cons_succ, or_false, false_or, or_self, or_true, true_or, decide_true])), by show ms.length - (i + 1) < ms.length - i; omega⟩
    rcases Nat.lt_or_eq_of_le (Nat.le_of_lt_succ hj) with h | h
    · exact hno j h
    · rw [h]; exact hb
  · exact hN0 _ _ ⟨rfl, by rw [idxNone _ _ (fun j hj => hno j (by omega))]; rfl⟩
theorem indexFunc3 (ms : List Mk) (hms : ms.length ≤ 1000000) (b r su : Int) (t e : List UInt8) : Ctr Tryd.prog [] 130 [mrow ms, .cells [.v (.int .i64 b), .v (.string (B t)), .v (.int .u64 r), .v (.int .i64 su), .v (.string (B e))] 62] [.one (.c (.row 0)), .one (.c (.clo 88 [] [.loc 1 0]))]
    (fun os v => os = [mrow ms, .cells [.v (.int .i64 b), .v (.string (B t)), .v (.int .u64 r), .v (.int .i64 su), .v (.string (B e))] 62] ∧ v = vv (.int .i64 (idxI (isMk b t r su e) ms))) := by
  have hrun : ∀ m : Mk, Ctr Tryd.prog [] 88 [.cells [.v (.int .i64 b), .v (.string (B t)), .v (.int .u64 r), .v (.int .i64 su), .v (.string (B e))] 62] [.one (.agg [.v (.int .i64 m.t), .v (.string (B m.s)), .v (.int .u64 m.q), .v (.int .i64 m.st), .v (.string (B m.d))]), .one (.c (.loc 0 0))]
    (fun os v => os = [.cells [.v (.int .i64 b), .v (.string (B t)), .v (.int .u64 r), .v (.int .i64 su), .v (.string (B e))] 62] ∧ v = vv (.bool ((isMk b t r su e) m))) := fun m => begin3_ctr _ _ _ _ _ _ _ _ _ _
  intro X0 hP0 hG0 N0 hN0
  refine CallVC.inline (f := 130) (by rw [hP0]; exact Tryd.func130) rfl Tryd.ntmps130 rfl (by simp) ?_
  intro X K hU hnt hbl hK
  have hP : X.P = Tryd.prog := by rw [hU.P, hP0]
  have hG := hG0.under hU
  have hT : X.P.underlying 59 = some (TypeDesc.slice 62) ∧ elemSz X.P 59 = some (62, 5) ∧ aggOf X.P 62 = some true ∧ szOf X.P 62 = some 5 := by rw [hP]; exact ⟨Tryd.underlying59, Ty.el59, Ty.ag62, Ty.sz62⟩
  simp only [GA, ↓GB, List.filterMap_cons, eq_self, BEq.rfl, simprocAttr] at hbl ⊢
  have hc : calleeOk X.P 88 = true := by rw [hP]; kernel_rfl
  repeat' (first
    | (refine SX.seqK ?_; intro N hN)
    | ((first | (refine SX.ops ?_)); simp only [GA, ↓GB, List.filterMap_cons, eq_self, BEq.rfl, simprocAttr, hnt, hT, hc])
    | ((first | refine SX.skip ?_ | refine SX.exit ?_ | refine SX.label ?_); try simp only [GA, ↓GB, List.filterMap_cons, eq_self, BEq.rfl, simprocAttr])
    | (refine SX.cond rfl (fun hb => ?_) (fun hb => ?_) <;> ((first | cases hb | (simp only [decide_eq_true_eq, decide_eq_false_iff_not, beq_iff_eq, beq_eq_false_iff_ne, bne_iff_ne, Bool.and_eq_true, Bool.or_eq_true, Bool.not_eq_true', Bool.not_eq_false', Bool.and_eq_false_iff, Bool.or_eq_false_iff, Int.not_lt, Int.not_le] at hb) | skip) <;> (first | (exfalso; omega) | skip)))
    | (refine SX.ret ?_; try simp only [GA, ↓GB, List.filterMap_cons, eq_self, BEq.rfl, simprocAttr])
    | (refine hN _ ?_; clear hN N)
    | ((first | refine hK _ _ (FinI.ret3 ?_) | refine hK _ _ (FinI.nrm3 ?_)); simp only [GA, ↓GB, List.filterMap_cons, eq_self, BEq.rfl, simprocAttr, finP_s, hnt, hT, hc]; refine Done.out ?_)
    | (clear hN N; first | (refine hN _ ?_; clear hN N) | (clear hN N; first | (refine hN _ ?_; clear hN N) | (clear hN N; first | (refine hN _ ?_; clear hN N) | (clear hN N; first | (refine hN _ ?_; clear hN N) | (clear hN N; first | (refine hN _ ?_; clear hN N) | (refine hN _ ?_; clear hN N))))))
    | (refine bif2.mk (fun hb => ?_) (fun hb => ?_) <;> (try simp only [hb, GA, ↓GB, List.filterMap_cons, eq_self, BEq.rfl, simprocAttr, hnt, hT, hc]) <;> ((first | cases hb | (simp only [decide_eq_true_eq, decide_eq_false_iff_not, beq_iff_eq, beq_eq_false_iff_ne, bne_iff_ne, Bool.and_eq_true, Bool.or_eq_true, Bool.not_eq_true', Bool.not_eq_false', Bool.and_eq_false_iff, Bool.or_eq_false_iff, Int.not_lt, Int.not_le] at hb) | skip) <;> (first | (exfalso; omega) | skip)))
    | ((first | (refine Ctr.use (hrun (ms.getD i default)) hP ?_ [1] ?_ rfl rfl ?_; (focus (intro p hp; cases hp)); (focus (refine LeR.of rfl trivial ?_ ?_ ?_ ?_ ?_ <;> first | decide | (simp only [GA, ↓GB, List.filterMap_cons, eq_self, BEq.rfl, simprocAttr, List.getD_cons_zero, List.getD_cons_succ, or_false, false_or, or_self, or_true, true_or, decide_true]; done))); intro os' s hR; obtain ⟨rfl, rfl⟩ := hR)); simp only [GA, ↓GB, List.filterMap_cons, eq_self, BEq.rfl, simprocAttr, hnt, hT, hc])
    | (refine SX.loop (ι := { i : Nat // i ≤ ms.length ∧ ∀ j, j < i → (isMk b t r su e) (ms.getD j default) = false }) (fun i => ⟨[(0, .one (.c (.row 0))), (1, .one (.c (.clo 88 [] [.loc 1 0]))), (7, vv (.int .i64 ms.length)), (8, vv (.int .i64 i.1))], [mrow ms, .cells [.v (.int .i64 b), .v (.string (B t)), .v (.int .u64 r), .v (.int .i64 su), .v (.string (B e))] 62]⟩) (fun i => ms.length - i.1) ⟨0, by omega, fun j hj => absurd hj (Nat.not_lt_zero j)⟩ ⟨[0, 1], (LeR.of (by rw [hbl]; decide) (by simp only [GA, ↓GB, List.filterMap_cons, eq_self, BEq.rfl, simprocAttr, List.getD_cons_zero, List.getD_cons_succ, or_false, false_or, or_self, or_true, true_or, decide_true]) (by simp only [GA, ↓GB, List.filterMap_cons, eq_self, BEq.rfl, simprocAttr, List.getD_cons_zero, List.getD_cons_succ, or_false, false_or, or_self, or_true, true_or, decide_true]) (by decide) (by simp only [GA, ↓GB, List.filterMap_cons, eq_self, BEq.rfl, simprocAttr, List.getD_cons_zero, List.getD_cons_succ, or_false, false_or, or_self, or_true, true_or, decide_true]) (by simp only [GA, ↓GB, List.filterMap_cons, eq_self, BEq.rfl, simprocAttr, List.getD_cons_zero, List.getD_cons_succ, or_false, false_or, or_self, or_true, true_or, decide_true]) (by simp only [GA, ↓GB, List.filterMap_cons, eq_self, BEq.rfl, simprocAttr, List.getD_cons_zero, List.getD_cons_succ, or_false, false_or, or_self, or_true, true_or, decide_true]))⟩ ?_ <;> rintro ⟨i, hi, hno⟩ <;> simp only [] at hi hno ⊢)
    | (refine ⟨(ms.getD i default).cells, rfl, mks_at _ _ (by omega), ?_⟩ <;> simp only [Mk.cells, GA, ↓GB, List.filterMap_cons, eq_self, BEq.rfl, simprocAttr, hnt, hT])
    | (refine SX.block ?_)
    | (refine and_mk ?_ ?_; (focus first | decide | omega | rfl | assumption | (simp only [List.length_append, List.length_cons, List.length_nil, B_size]; omega) | (simp; done)))
    | (refine And.intro ?_ ?_))
  all_goals (try refine Done.mk ?_)
  · exact hN0 _ _ ⟨rfl, by rw [idxN _ _ i (by omega) hb hno]; rfl⟩
  · refine ⟨⟨i + 1, by omega, fun j hj => ?_⟩, [0, 1], (LeR.of (by rw [hbl]; decide) (by simp only [GA, ↓GB, List.filterMap_cons, eq_self, BEq.rfl, simprocAttr, List.getD_cons_zero, List.getD_cons_succ, or_false, false_or, or_self, or_true, true_or, decide_true]; try (rw [wI64 (by omega) (by omega)]; simp)) (by simp only [GA, ↓GB, List.filterMap_cons, eq_self, BEq.rfl, simprocAttr, List.getD_cons_zero, List.getD_cons_succ, or_false, false_or, or_self, or_true, true_or, decide_true]; try (rw [wI64 (by omega) (by omega)]; simp)) (by decide) (by simp only [GA, ↓GB, List.filterMap_cons, eq_self, BEq.rfl, simprocAttr, List.getD_cons_zero, List.getD_cons_succ, or_false, false_or, or_self, or_true, true_or, decide_true]) (by simp only [GA, ↓GB, List.filterMap_cons, eq_self, BEq.rfl, simprocAttr, List.getD_cons_zero, List.getD_cons_succ, or_false, false_or, or_self, or_true, true_or, decide_true]) (by simp only [GA, ↓GB, List.filterMap_cons, eq_self, BEq.rfl, simprocAttr, List.getD_cons_zero, List.getD_cons_succ, or_false, false_or, or_self, or_true, true_or, decide_true])), by show ms.length - (i + 1) < ms.length - i; omega⟩
    rcases Nat.lt_or_eq_of_le (Nat.le_of_lt_succ hj) with h | h
    · exact hno j h
    · rw [h]; exact hb
  · exact hN0 _ _ ⟨rfl, by rw [idxNone _ _ (fun j hj => hno j (by omega))]; rfl⟩
theorem indexFuncE (ms : List Mk) (hms : ms.length ≤ 1000000)  : Ctr Tryd.prog [] 130 [mrow ms] [.one (.c (.row 0)), .one (.c (.clo 93 [] []))]
    (fun os v => os = [mrow ms] ∧ v = vv (.int .i64 (idxI isPend ms))) := by
  have hrun : ∀ (m : Mk) (w : World), Calls Tryd.prog 93 #[.agg #[.int .i64 m.t, .string (B m.s), .int .u64 m.q, .int .i64 m.st, .string (B m.d)]] w fun x w' => x = .returned (.bool (isPend m)) ∧ Below w.heap.size w w' := fun m => erase1_any _ _ _ _ _
  intro X0 hP0 hG0 N0 hN0
  refine CallVC.inline (f := 130) (by rw [hP0]; exact Tryd.func130) rfl Tryd.ntmps130 rfl (by simp) ?_
  intro X K hU hnt hbl hK
  have hP : X.P = Tryd.prog := by rw [hU.P, hP0]
  have hG := hG0.under hU
  have hT : X.P.underlying 59 = some (TypeDesc.slice 62) ∧ elemSz X.P 59 = some (62, 5) ∧ aggOf X.P 62 = some true ∧ szOf X.P 62 = some 5 := by rw [hP]; exact ⟨Tryd.underlying59, Ty.el59, Ty.ag62, Ty.sz62⟩
  simp only [GA, ↓GB, List.filterMap_cons, eq_self, BEq.rfl, simprocAttr] at hbl ⊢
  have hc : calleeOk X.P 93 = true := by rw [hP]; kernel_rfl
  repeat' (first
    | (refine SX.seqK ?_; intro N hN)
    | ((first | (refine SX.ops ?_)); simp only [GA, ↓GB, List.filterMap_cons, eq_self, BEq.rfl, simprocAttr, hnt, hT, hc])
    | ((first | refine SX.skip ?_ | refine SX.exit ?_ | refine SX.label ?_); try simp only [GA, ↓GB, List.filterMap_cons, eq_self, BEq.rfl, simprocAttr])
    | (refine SX.cond rfl (fun hb => ?_) (fun hb => ?_) <;> ((first | cases hb | (simp only [decide_eq_true_eq, decide_eq_false_iff_not, beq_iff_eq, beq_eq_false_iff_ne, bne_iff_ne, Bool.and_eq_true, Bool.or_eq_true, Bool.not_eq_true', Bool.not_eq_false', Bool.and_eq_false_iff, Bool.or_eq_false_iff, Int.not_lt, Int.not_le] at hb) | skip) <;> (first | (exfalso; omega) | skip)))
    | (refine SX.ret ?_; try simp only [GA, ↓GB, List.filterMap_cons, eq_self, BEq.rfl, simprocAttr])
    | (refine hN _ ?_; clear hN N)
    | ((first | refine hK _ _ (FinI.ret3 ?_) | refine hK _ _ (FinI.nrm3 ?_)); simp only [GA, ↓GB, List.filterMap_cons, eq_self, BEq.rfl, simprocAttr, finP_s, hnt, hT, hc]; refine Done.out ?_)
    | (clear hN N; first | (refine hN _ ?_; clear hN N) | (clear hN N; first | (refine hN _ ?_; clear hN N) | (clear hN N; first | (refine hN _ ?_; clear hN N) | (clear hN N; first | (refine hN _ ?_; clear hN N) | (clear hN N; first | (refine hN _ ?_; clear hN N) | (refine hN _ ?_; clear hN N))))))
    | (refine bif2.mk (fun hb => ?_) (fun hb => ?_) <;> (try simp only [hb, GA, ↓GB, List.filterMap_cons, eq_self, BEq.rfl, simprocAttr, hnt, hT, hc]) <;> ((first | cases hb | (simp only [decide_eq_true_eq, decide_eq_false_iff_not, beq_iff_eq, beq_eq_false_iff_ne, bne_iff_ne, Bool.and_eq_true, Bool.or_eq_true, Bool.not_eq_true', Bool.not_eq_false', Bool.and_eq_false_iff, Bool.or_eq_false_iff, Int.not_lt, Int.not_le] at hb) | skip) <;> (first | (exfalso; omega) | skip)))
    | ((first | (refine CallVC.pv hP (hrun (ms.getD i default)) rfl ?_) | (refine CallQ.pv hP (hrun (ms.getD i default)) rfl ?_)); simp only [GA, ↓GB, List.filterMap_cons, eq_self, BEq.rfl, simprocAttr, hnt, hT, hc])
    | (refine SX.loop (ι := { i : Nat // i ≤ ms.length ∧ ∀ j, j < i → isPend (ms.getD j default) = false }) (fun i => ⟨[(0, .one (.c (.row 0))), (1, .one (.c (.clo 93 [] []))), (7, vv (.int .i64 ms.length)), (8, vv (.int .i64 i.1))], [mrow ms]⟩) (fun i => ms.length - i.1) ⟨0, by omega, fun j hj => absurd hj (Nat.not_lt_zero j)⟩ ⟨[0], (LeR.of (by rw [hbl]; decide) (by simp only [GA, ↓GB, List.filterMap_cons, eq_self, BEq.rfl, simprocAttr, List.getD_cons_zero, List.getD_cons_succ, or_false, false_or, or_self, or_true, true_or, decide_true]) (by simp only [GA, ↓GB, List.filterMap_cons, eq_self, BEq.rfl, simprocAttr, List.getD_cons_zero, List.getD_cons_succ, or_false, false_or, or_self, or_true, true_or, decide_true]) (by decide) (by simp only [GA, ↓GB, List.filterMap_cons, eq_self, BEq.rfl, simprocAttr, List.getD_cons_zero, List.getD_cons_succ, or_false, false_or, or_self, or_true, true_or, decide_true]) (by simp only [GA, ↓GB, List.filterMap_cons, eq_self, BEq.rfl, simprocAttr, List.getD_cons_zero, List.getD_cons_succ, or_false, false_or, or_self, or_true, true_or, decide_true]) (by simp only [GA, ↓GB, List.filterMap_cons, eq_self, BEq.rfl, simprocAttr, List.getD_cons_zero, List.getD_cons_succ, or_false, false_or, or_self, or_true, true_or, decide_true]))⟩ ?_ <;> rintro ⟨i, hi, hno⟩ <;> simp only [] at hi hno ⊢)
    | (refine ⟨(ms.getD i default).cells, rfl, mks_at _ _ (by omega), ?_⟩ <;> simp only [Mk.cells, GA, ↓GB, List.filterMap_cons, eq_self, BEq.rfl, simprocAttr, hnt, hT])
    | (refine SX.block ?_)
    | (refine and_mk ?_ ?_; (focus first | decide | omega | rfl | assumption | (simp only [List.length_append, List.length_cons, List.length_nil, B_size]; omega) | (simp; done)))
    | (refine And.intro ?_ ?_))
  all_goals (try refine Done.mk ?_)
  · exact hN0 _ _ ⟨rfl, by rw [idxN _ _ i (by omega) hb hno]; rfl⟩
  · refine ⟨⟨i + 1, by omega, fun j hj => ?_⟩, [0], (LeR.of (by rw [hbl]; decide) (by simp only [GA, ↓GB, List.filterMap_cons, eq_self, BEq.rfl, simprocAttr, List.getD_cons_zero, List.getD_cons_succ, or_false, false_or, or_self, or_true, true_or, decide_true]; try (rw [wI64 (by omega) (by omega)]; simp)) (by simp only [GA, ↓GB, List.filterMap_cons, eq_self, BEq.rfl, simprocAttr, List.getD_cons_zero, List.getD_cons_succ, or_false, false_or, or_self, or_true, true_or, decide_true]; try (rw [wI64 (by omega) (by omega)]; simp)) (by decide) (by simp only [GA, ↓GB, List.filterMap_cons, eq_self, BEq.rfl, simprocAttr, List.getD_cons_zero, List.getD_cons_succ, or_false, false_or, or_self, or_true, true_or, decide_true]) (by simp only [GA, ↓GB, List.filterMap_cons, eq_self, BEq.rfl, simprocAttr, List.getD_cons_zero, List.getD_cons_succ, or_false, false_or, or_self, or_true, true_or, decide_true]) (by simp only [GA, ↓GB, List.filterMap_cons, eq_self, BEq.rfl, simprocAttr, List.getD_cons_zero, List.getD_cons_succ, or_false, false_or, or_self, or_true, true_or, decide_true])), by show ms.length - (i + 1) < ms.length - i; omega⟩
    rcases Nat.lt_or_eq_of_le (Nat.le_of_lt_succ hj) with h | h
    · exact hno j h
    · rw [h]; exact hb
  · exact hN0 _ _ ⟨rfl, by rw [idxNone _ _ (fun j hj => hno j (by omega))]; rfl⟩
theorem containsFunc1 (ms : List Mk) (hms : ms.length ≤ 1000000) (b r : Int) (t : List UInt8) : Ctr Tryd.prog [] 79 [mrow ms, .cells [.v (.int .i64 b), .v (.string (B t))] 26, .cells [.v (.int .u64 r)] 22] [.one (.c (.row 0)), .one (.c (.clo 80 [] [.loc 1 0, .loc 2 0]))]
    (fun os v => os = [mrow ms, .cells [.v (.int .i64 b), .v (.string (B t))] 26, .cells [.v (.int .u64 r)] 22] ∧ v = vv (.bool (decide (0 ≤ idxI (isAt b t r) ms)))) := by
  intro X0 hP0 hG0 N0 hN0
  refine CallVC.inline (f := 79) (by rw [hP0]; exact Tryd.func79) rfl Tryd.ntmps79 rfl (by simp) ?_
  intro X K hU hnt hbl hK
  have hP : X.P = Tryd.prog := by rw [hU.P, hP0]
  have hG := hG0.under hU
  have hT : calleeOk X.P 130 = true := by rw [hP]; exact Ty.co130
  simp only [GA, ↓GB, List.filterMap_cons, eq_self, BEq.rfl, simprocAttr] at hbl ⊢
  repeat' (first
    | (refine SX.seqK ?_; intro N hN)
    | ((first | (refine SX.ops ?_)); simp only [GA, ↓GB, List.filterMap_cons, eq_self, BEq.rfl, simprocAttr, hnt, hT])
    | ((first | refine SX.skip ?_ | refine SX.exit ?_ | refine SX.label ?_); try simp only [GA, ↓GB, List.filterMap_cons, eq_self, BEq.rfl, simprocAttr])
    | (refine SX.cond rfl (fun hb => ?_) (fun hb => ?_) <;> ((first | cases hb | (simp only [decide_eq_true_eq, decide_eq_false_iff_not, beq_iff_eq, beq_eq_false_iff_ne, bne_iff_ne, Bool.and_eq_true, Bool.or_eq_true, Bool.not_eq_true', Bool.not_eq_false', Bool.and_eq_false_iff, Bool.or_eq_false_iff, Int.not_lt, Int.not_le] at hb) | skip) <;> (first | (exfalso; omega) | skip)))
    | (refine SX.ret ?_; try simp only [GA, ↓GB, List.filterMap_cons, eq_self, BEq.rfl, simprocAttr])
    | (refine hN _ ?_; clear hN N)
    | ((first | refine hK _ _ (FinI.ret3 ?_) | refine hK _ _ (FinI.nrm3 ?_)); simp only [GA, ↓GB, List.filterMap_cons, eq_self, BEq.rfl, simprocAttr, finP_s, hnt, hT]; refine Done.out ?_)
    | (clear hN N; first | (refine hN _ ?_; clear hN N) | (clear hN N; first | (refine hN _ ?_; clear hN N) | (clear hN N; first | (refine hN _ ?_; clear hN N) | (clear hN N; first | (refine hN _ ?_; clear hN N) | (clear hN N; first | (refine hN _ ?_; clear hN N) | (refine hN _ ?_; clear hN N))))))
    | (refine bif2.mk (fun hb => ?_) (fun hb => ?_) <;> (try simp only [hb, GA, ↓GB, List.filterMap_cons, eq_self, BEq.rfl, simprocAttr, hnt, hT]) <;> ((first | cases hb | (simp only [decide_eq_true_eq, decide_eq_false_iff_not, beq_iff_eq, beq_eq_false_iff_ne, bne_iff_ne, Bool.and_eq_true, Bool.or_eq_true, Bool.not_eq_true', Bool.not_eq_false', Bool.and_eq_false_iff, Bool.or_eq_false_iff, Int.not_lt, Int.not_le] at hb) | skip) <;> (first | (exfalso; omega) | skip)))
    | ((first | (refine Ctr.use (indexFunc1 ms hms b r t) hP ?_ [0,1,2] ?_ rfl rfl ?_; (focus (intro p hp; cases hp)); (focus (refine LeR.of rfl trivial ?_ ?_ ?_ ?_ ?_ <;> first | decide | (simp only [GA, ↓GB, List.filterMap_cons, eq_self, BEq.rfl, simprocAttr, List.getD_cons_zero, List.getD_cons_succ, or_false, false_or, or_self, or_true, true_or, decide_true]; done))); intro os' s hR; obtain ⟨rfl, rfl⟩ := hR)); simp only [GA, ↓GB, List.filterMap_cons, eq_self, BEq.rfl, simprocAttr, hnt, hT])
    | (refine SX.block ?_)
    | (refine and_mk ?_ ?_; (focus first | decide | omega | rfl | assumption | (simp only [List.length_append, List.length_cons, List.length_nil, B_size]; omega) | (simp; done)))
    | (refine And.intro ?_ ?_))
  all_goals (try refine Done.mk ?_)
  all_goals exact hN0 _ _ ⟨rfl, rfl⟩
end Go.Proofs.YtbdacbcpniegiaaDoor
namespace Go.Proofs.YtbdacbcpniegiaaDoor
open Go Go.RowKit Go.Proofs Go.Sx
set_option maxHeartbeats 4000000
set_option maxRecDepth 100000
set_option linter.unusedSimpArgs false
set_option linter.unusedVariables false
def cmpM (a b : Mk) : Int := cmpMark a.t a.s a.q b.t b.s b.q
theorem order_mk (a b : Mk) (w : World) : Calls Tryd.prog 82 #[.agg #[.int .i64 a.t, .string (B a.s), .int .u64 a.q, .int .i64 a.st, .string (B a.d)], .agg #[.int .i64 b.t, .string (B b.s), .int .u64 b.q, .int .i64 b.st, .string (B b.d)]] w fun x w' => x = .returned (.int .i64 (cmpM a b)) ∧ Below w.heap.size w w' := markOrder_any _ _ _ _ _ _ _ _ _ _ w
def bsN (ms : List Mk) (m : Mk) : Nat := (ms.takeWhile fun x => decide (cmpM x m < 0)).length
theorem bsN_eq (ms : List Mk) (m : Mk) (i : Nat) (hi : i ≤ ms.length) (h1 : ∀ k, k < i → cmpM (ms.getD k default) m < 0) (h2 : i < ms.length → ¬ cmpM (ms.getD i default) m < 0) : bsN ms m = i := by
  induction ms generalizing i with
  | nil => simp at hi; subst hi; rfl
  | cons x ms ih =>
    cases i with
    | zero =>
      have := h2 (by simp)
      simp only [List.getD_cons_zero] at this
      simp [bsN, List.takeWhile_cons, this]
    | succ i =>
      have h0 := h1 0 (by omega)
      simp only [List.getD_cons_zero] at h0
      have := ih i (by simpa using hi) (fun k hk => by simpa using h1 (k + 1) (by omega)) (fun hk => by simpa using h2 (by simpa using hk))
      simp only [bsN, List.takeWhile_cons, h0, decide_true, if_true, List.length_cons] at this ⊢
      omega
theorem halfU (i j : Nat) (hi : i ≤ 1000000) (hj : j ≤ 1000000) : IntKind.i64.wrap ((IntKind.u64.wrap (IntKind.i64.wrap ((i : Int) + (j : Int)))).fdiv (2 ^ min 1 IntKind.u64.bits)) = (((i + j) / 2 : Nat) : Int) := by
  rw [wI64 (x := (i : Int) + j) (by omega) (by omega), wU64 (x := (i : Int) + j) (by omega) (by omega), show (2 : Int) ^ (min 1 IntKind.u64.bits) = 2 from rfl, Int.fdiv_eq_ediv_of_nonneg _ (by decide), wI64 (by omega) (by omega)]
  omega
def Sorted2 (ms : List Mk) (m : Mk) : Prop := ∀ a b, a ≤ b → b < ms.length → cmpM (ms.getD b default) m < 0 → cmpM (ms.getD a default) m < 0
theorem search_ctr (ms : List Mk) (hms : ms.length ≤ 1000000) (m : Mk) (hs : Sorted2 ms m) : Ctr Tryd.prog [] 81 [mrow ms] [.one (.c (.row 0)), .one (.agg [.v (.int .i64 m.t), .v (.string (B m.s)), .v (.int .u64 m.q), .v (.int .i64 m.st), .v (.string (B m.d))]), .one (.c (.clo 82 [] []))]
    (fun os v => os = [mrow ms] ∧ v = .tup [.c (.v (.int .i64 (bsN ms m))), .c (.v (.bool (decide (bsN ms m < ms.length) && decide (cmpM (ms.getD (bsN ms m) default) m = 0))))]) := by
  refine Ctr.less ?_
  intro X0 hP0 hG0 N0 hN0
  refine CallVC.inline (f := 81) (by rw [hP0]; exact Tryd.func81) rfl Tryd.ntmps81 rfl (by simp) ?_
  intro X K hU hnt hbl hK
  have hP : X.P = Tryd.prog := by rw [hU.P, hP0]
  have hG := hG0.under hU
  have hT : X.P.underlying 59 = some (TypeDesc.slice 62) ∧ X.P.underlying 3 = some (TypeDesc.int IntKind.i64) ∧ X.P.underlying 164 = some (TypeDesc.int IntKind.u64) ∧ isBytesT X.P 3 = false ∧ isStrT X.P 164 = false ∧ isBytesT X.P 164 = false ∧ isStrT X.P 3 = false ∧ elemSz X.P 59 = some (62, 5) ∧ aggOf X.P 62 = some true ∧ szOf X.P 62 = some 5 := by rw [hP]; exact ⟨Tryd.underlying59, Tryd.underlying3, Tryd.underlying164, Ty.ib3, Ty.is164, Ty.ib164, Ty.is3, Ty.el59, Ty.ag62, Ty.sz62⟩
  simp only [GA, ↓GB, List.filterMap_cons, eq_self, BEq.rfl, simprocAttr] at hbl ⊢
  have hc : calleeOk X.P 82 = true := by rw [hP]; kernel_rfl
  repeat' (first
    | (refine SX.seqK ?_; intro N hN)
    | ((first | (refine SX.ops ?_) | (refine SX.planT (id := 5) [.q [(0, [2]), (1, [0]), (2, [11]), (3, [25, 26]), (4, [27]), (5, [4])] none, .s 6, .s 7] ?_ ?_ ?_; (focus first | (rw [hP]; kernel_rfl) | (rw [hU1P, hP]; kernel_rfl)); (focus kernel_rfl)) | (refine SX.planT (id := 8) [.f 0, .q [(1, [9]), (2, [8]), (3, [36, 37]), (4, [38]), (5, [2, 39]), (6, [0, 39]), (7, [9, 39]), (8, [41, 42, 39]), (9, [43, 39]), (10, [4, 39])] none, .s 11, .q [(12, [46, 39]), (13, [39, 47]), (14, [35]), (15, [48])] none] ?_ ?_ ?_; (focus first | (rw [hP]; kernel_rfl) | (rw [hU1P, hP]; kernel_rfl)); (focus kernel_rfl))); simp only [GA, ↓GB, List.filterMap_cons, eq_self, BEq.rfl, simprocAttr, hnt, hT, hc])
    | ((first | refine SX.skip ?_ | refine SX.exit ?_ | refine SX.label ?_); try simp only [GA, ↓GB, List.filterMap_cons, eq_self, BEq.rfl, simprocAttr])
    | (refine SX.cond rfl (fun hb => ?_) (fun hb => ?_) <;> ((first | cases hb | (simp only [decide_eq_true_eq, decide_eq_false_iff_not, beq_iff_eq, beq_eq_false_iff_ne, bne_iff_ne, Bool.and_eq_true, Bool.or_eq_true, Bool.not_eq_true', Bool.not_eq_false', Bool.and_eq_false_iff, Bool.or_eq_false_iff, Int.not_lt, Int.not_le] at hb) | skip) <;> (first | (exfalso; omega) | skip)))
    | (refine SX.ret ?_; try simp only [GA, ↓GB, List.filterMap_cons, eq_self, BEq.rfl, simprocAttr])
    | (refine hN _ ?_; clear hN N)
    | ((first | refine hK _ _ (FinI.ret3 ?_) | refine hK _ _ (FinI.nrm3 ?_)); simp only [GA, ↓GB, List.filterMap_cons, eq_self, BEq.rfl, simprocAttr, finP_s, hnt, hT, hc]; refine Done.out ?_)
    | (clear hN N; first | (refine hN _ ?_; clear hN N) | (clear hN N; first | (refine hN _ ?_; clear hN N) | (clear hN N; first | (refine hN _ ?_; clear hN N) | (clear hN N; first | (refine hN _ ?_; clear hN N) | (clear hN N; first | (refine hN _ ?_; clear hN N) | (refine hN _ ?_; clear hN N))))))
    | (refine bif2.mk (fun hb => ?_) (fun hb => ?_) <;> (try simp only [hb, GA, ↓GB, List.filterMap_cons, eq_self, BEq.rfl, simprocAttr, hnt, hT, hc]) <;> ((first | cases hb | (simp only [decide_eq_true_eq, decide_eq_false_iff_not, beq_iff_eq, beq_eq_false_iff_ne, bne_iff_ne, Bool.and_eq_true, Bool.or_eq_true, Bool.not_eq_true', Bool.not_eq_false', Bool.and_eq_false_iff, Bool.or_eq_false_iff, Int.not_lt, Int.not_le] at hb) | skip) <;> (first | (exfalso; omega) | skip)))
    | ((first | (refine CallVC.pv hP (order_mk (ms.getD ((i + j) / 2) default) m) rfl ?_) | (refine CallQ.pv hP (order_mk (ms.getD ((i + j) / 2) default) m) rfl ?_) | (refine CallVC.pv hP (order_mk (ms.getD i default) m) rfl ?_) | (refine CallQ.pv hP (order_mk (ms.getD i default) m) rfl ?_)); simp only [GA, ↓GB, List.filterMap_cons, eq_self, BEq.rfl, simprocAttr, hnt, hT, hc])
    | (refine SX.loop (ι := { p : Nat × Nat // p.1 ≤ p.2 ∧ p.2 ≤ ms.length ∧ (∀ k, k < p.1 → cmpM (ms.getD k default) m < 0) ∧ (∀ k, p.2 ≤ k → k < ms.length → ¬ cmpM (ms.getD k default) m < 0) }) (fun i => ⟨[(0, .one (.c (.row 0))), (2, .one (.c (.clo 82 [] []))), (4, .one (.c (.loc 1 0))), (8, vv (.int .i64 ms.length)), (9, vv (.int .i64 i.1.1)), (10, vv (.int .i64 i.1.2))], [mrow ms, .cells [.v (.int .i64 m.t), .v (.string (B m.s)), .v (.int .u64 m.q), .v (.int .i64 m.st), .v (.string (B m.d))] 62]⟩) (fun i => i.1.2 - i.1.1) ⟨(0, ms.length), by simp, by simp, fun k hk => absurd hk (Nat.not_lt_zero k), fun k hk hk2 => by simp at hk; omega⟩ ⟨[0, 1], (LeR.of (by rw [hbl]; decide) (by simp only [GA, ↓GB, List.filterMap_cons, eq_self, BEq.rfl, simprocAttr, List.getD_cons_zero, List.getD_cons_succ, or_false, false_or, or_self, or_true, true_or, decide_true]) (by simp only [GA, ↓GB, List.filterMap_cons, eq_self, BEq.rfl, simprocAttr, List.getD_cons_zero, List.getD_cons_succ, or_false, false_or, or_self, or_true, true_or, decide_true]) (by decide) (by simp only [GA, ↓GB, List.filterMap_cons, eq_self, BEq.rfl, simprocAttr, List.getD_cons_zero, List.getD_cons_succ, or_false, false_or, or_self, or_true, true_or, decide_true]) (by simp only [GA, ↓GB, List.filterMap_cons, eq_self, BEq.rfl, simprocAttr, List.getD_cons_zero, List.getD_cons_succ, or_false, false_or, or_self, or_true, true_or, decide_true]) (by simp only [GA, ↓GB, List.filterMap_cons, eq_self, BEq.rfl, simprocAttr, List.getD_cons_zero, List.getD_cons_succ, or_false, false_or, or_self, or_true, true_or, decide_true]))⟩ ?_ <;> rintro ⟨⟨i, j⟩, hij, hj, hlo, hhi⟩ <;> simp only [] at hij hj hlo hhi ⊢)
    | (refine ⟨(ms.getD ((i + j) / 2) default).cells, rfl, mks_at _ _ (by omega), ?_⟩ <;> simp only [Mk.cells, GA, ↓GB, List.filterMap_cons, eq_self, BEq.rfl, simprocAttr, hnt, hT])
    | (refine ⟨(ms.getD i default).cells, rfl, mks_at _ _ (by omega), ?_⟩ <;> simp only [Mk.cells, GA, ↓GB, List.filterMap_cons, eq_self, BEq.rfl, simprocAttr, hnt, hT])
    | (rw [halfU i j (by omega) (by omega)] <;> simp only [Int.toNat_natCast, GA, ↓GB, List.filterMap_cons, eq_self, BEq.rfl, simprocAttr])
    | (refine SX.block ?_)
    | (refine and_mk ?_ ?_; (focus first | decide | omega | rfl | assumption | (simp only [List.length_append, List.length_cons, List.length_nil, B_size]; omega) | (simp; done)))
    | (refine And.intro ?_ ?_))
  all_goals (try refine Done.mk ?_)
  · refine ⟨⟨((i + j) / 2 + 1, j), by show (i + j) / 2 + 1 ≤ j; omega, hj, fun k hk => hs k ((i + j) / 2) (by simp at hk; omega) (by omega) hb, hhi⟩, [0, 1], (LeR.of (by rw [hbl]; decide) (by simp only [GA, ↓GB, List.filterMap_cons, eq_self, BEq.rfl, simprocAttr, List.getD_cons_zero, List.getD_cons_succ, or_false, false_or, or_self, or_true, true_or, decide_true]; try (rw [wI64 (by omega) (by omega)]; simp)) (by simp only [GA, ↓GB, List.filterMap_cons, eq_self, BEq.rfl, simprocAttr, List.getD_cons_zero, List.getD_cons_succ, or_false, false_or, or_self, or_true, true_or, decide_true]; try (rw [wI64 (by omega) (by omega)]; simp)) (by decide) (by simp only [GA, ↓GB, List.filterMap_cons, eq_self, BEq.rfl, simprocAttr, List.getD_cons_zero, List.getD_cons_succ, or_false, false_or, or_self, or_true, true_or, decide_true]) (by simp only [GA, ↓GB, List.filterMap_cons, eq_self, BEq.rfl, simprocAttr, List.getD_cons_zero, List.getD_cons_succ, or_false, false_or, or_self, or_true, true_or, decide_true]) (by simp only [GA, ↓GB, List.filterMap_cons, eq_self, BEq.rfl, simprocAttr, List.getD_cons_zero, List.getD_cons_succ, or_false, false_or, or_self, or_true, true_or, decide_true])), by show j - ((i + j) / 2 + 1) < j - i; omega⟩
  · refine ⟨⟨(i, (i + j) / 2), by show i ≤ (i + j) / 2; omega, by show (i + j) / 2 ≤ ms.length; omega, hlo, fun k hk hk2 h => by have := hs ((i + j) / 2) k hk hk2 h; omega⟩, [0, 1], (LeR.of (by rw [hbl]; decide) (by simp only [GA, ↓GB, List.filterMap_cons, eq_self, BEq.rfl, simprocAttr, List.getD_cons_zero, List.getD_cons_succ, or_false, false_or, or_self, or_true, true_or, decide_true]) (by simp only [GA, ↓GB, List.filterMap_cons, eq_self, BEq.rfl, simprocAttr, List.getD_cons_zero, List.getD_cons_succ, or_false, false_or, or_self, or_true, true_or, decide_true]) (by decide) (by simp only [GA, ↓GB, List.filterMap_cons, eq_self, BEq.rfl, simprocAttr, List.getD_cons_zero, List.getD_cons_succ, or_false, false_or, or_self, or_true, true_or, decide_true]) (by simp only [GA, ↓GB, List.filterMap_cons, eq_self, BEq.rfl, simprocAttr, List.getD_cons_zero, List.getD_cons_succ, or_false, false_or, or_self, or_true, true_or, decide_true]) (by simp only [GA, ↓GB, List.filterMap_cons, eq_self, BEq.rfl, simprocAttr, List.getD_cons_zero, List.getD_cons_succ, or_false, false_or, or_self, or_true, true_or, decide_true])), by show (i + j) / 2 - i < j - i; omega⟩
  · have hb' : i < ms.length := by omega
    have e : bsN ms m = i := bsN_eq ms m i (by omega) hlo (fun h => hhi i (by omega) h)
    simp only [e] at hN0
    (refine hN0 _ _ ⟨[0], _, _, ?_, ?_, ?_, ⟨rfl, rfl⟩⟩; (focus exact LeR.of rfl trivial (by simp only [GA, ↓GB, List.filterMap_cons, eq_self, BEq.rfl, simprocAttr, List.getD_cons_zero, List.getD_cons_succ, or_false, false_or, or_self, or_true, true_or, decide_true]) (by decide) rfl rfl rfl); rotate_left; (focus rfl))
    simp only [SV.ren, S1.ren, SC.ren, hb', decide_true, Bool.true_and, List.map_cons, List.map_nil]
    rw [Bool.beq_eq_decide_eq]
  · have hb' : ¬ i < ms.length := by omega
    have e : bsN ms m = i := bsN_eq ms m i (by omega) hlo (fun h => hhi i (by omega) h)
    simp only [e] at hN0
    (refine hN0 _ _ ⟨[0], _, _, ?_, ?_, ?_, ⟨rfl, rfl⟩⟩; (focus exact LeR.of rfl trivial (by simp only [GA, ↓GB, List.filterMap_cons, eq_self, BEq.rfl, simprocAttr, List.getD_cons_zero, List.getD_cons_succ, or_false, false_or, or_self, or_true, true_or, decide_true]) (by decide) rfl rfl rfl); rotate_left; (focus rfl))
    simp [SV.ren, S1.ren, SC.ren, hb']
def minQ (ms : List Mk) : Nat → Mk
  | 0 => ms.getD 0 default
  | n + 1 => if cmpI (ms.getD (n + 1) default).q (minQ ms n).q < 0 then ms.getD (n + 1) default else minQ ms n
theorem begin2_mk (a b : Mk) (w : World) : Calls Tryd.prog 85 #[.agg #[.int .i64 a.t, .string (B a.s), .int .u64 a.q, .int .i64 a.st, .string (B a.d)], .agg #[.int .i64 b.t, .string (B b.s), .int .u64 b.q, .int .i64 b.st, .string (B b.d)]] w fun x w' => x = .returned (.int .i64 (cmpI a.q b.q)) ∧ Below w.heap.size w w' := begin2_any _ _ _ _ _ _ _ _ _ _ w
theorem min_ctr (ms : List Mk) (hms : ms.length ≤ 1000000) (h0 : 0 < ms.length) : Ctr Tryd.prog [] 84 [mrow ms] [.one (.c (.row 0)), .one (.c (.clo 85 [] []))]
    (fun os v => os = [mrow ms] ∧ v = .one (.agg ((minQ ms (ms.length - 1)).cells.map .v))) := by
  refine Ctr.less ?_
  intro X0 hP0 hG0 N0 hN0
  refine CallVC.inline (f := 84) (by rw [hP0]; exact Tryd.func84) rfl Tryd.ntmps84 rfl (by simp) ?_
  intro X K hU hnt hbl hK
  have hP : X.P = Tryd.prog := by rw [hU.P, hP0]
  have hG := hG0.under hU
  have hT : zeroCells X.P 62 = some [(Value.int IntKind.i64 0), (Value.string { data := #[] }), (Value.int IntKind.u64 0), (Value.int IntKind.i64 0), (Value.string { data := #[] })] ∧ X.P.underlying 59 = some (TypeDesc.slice 62) ∧ X.P.underlying 9 = some TypeDesc.string ∧ elemSz X.P 59 = some (62, 5) ∧ aggOf X.P 62 = some true ∧ szOf X.P 62 = some 5 := by rw [hP]; exact ⟨Ty.ze62, Tryd.underlying59, Tryd.underlying9, Ty.el59, Ty.ag62, Ty.sz62⟩
  simp only [GA, ↓GB, List.filterMap_cons, eq_self, BEq.rfl, simprocAttr] at hbl ⊢
  have hc : calleeOk X.P 85 = true := by rw [hP]; kernel_rfl
  repeat' (first
    | (refine SX.seqK ?_; intro N hN)
    | ((first | (refine SX.ops ?_) | (refine SX.planT (id := 7) [.q [(0, [1]), (1, [0]), (2, [6]), (3, [21, 22]), (4, [23]), (5, [5])] none, .s 6, .s 7] ?_ ?_ ?_; (focus first | (rw [hP]; kernel_rfl) | (rw [hU1P, hP]; kernel_rfl)); (focus kernel_rfl))); simp only [GA, ↓GB, List.filterMap_cons, eq_self, BEq.rfl, simprocAttr, hnt, hT, hc])
    | ((first | refine SX.skip ?_ | refine SX.exit ?_ | refine SX.label ?_); try simp only [GA, ↓GB, List.filterMap_cons, eq_self, BEq.rfl, simprocAttr])
    | (refine SX.cond rfl (fun hb => ?_) (fun hb => ?_) <;> ((first | cases hb | (simp only [decide_eq_true_eq, decide_eq_false_iff_not, beq_iff_eq, beq_eq_false_iff_ne, bne_iff_ne, Bool.and_eq_true, Bool.or_eq_true, Bool.not_eq_true', Bool.not_eq_false', Bool.and_eq_false_iff, Bool.or_eq_false_iff, Int.not_lt, Int.not_le] at hb) | skip) <;> (first | (exfalso; omega) | skip)))
    | (refine SX.ret ?_; try simp only [GA, ↓GB, List.filterMap_cons, eq_self, BEq.rfl, simprocAttr])
    | (refine hN _ ?_; clear hN N)
    | ((first | refine hK _ _ (FinI.ret3 ?_) | refine hK _ _ (FinI.nrm3 ?_)); simp only [GA, ↓GB, List.filterMap_cons, eq_self, BEq.rfl, simprocAttr, finP_s, hnt, hT, hc]; refine Done.out ?_)
    | (clear hN N; first | (refine hN _ ?_; clear hN N) | (clear hN N; first | (refine hN _ ?_; clear hN N) | (clear hN N; first | (refine hN _ ?_; clear hN N) | (clear hN N; first | (refine hN _ ?_; clear hN N) | (clear hN N; first | (refine hN _ ?_; clear hN N) | (refine hN _ ?_; clear hN N))))))
    | (refine bif2.mk (fun hb => ?_) (fun hb => ?_) <;> (try simp only [hb, GA, ↓GB, List.filterMap_cons, eq_self, BEq.rfl, simprocAttr, hnt, hT, hc]) <;> ((first | cases hb | (simp only [decide_eq_true_eq, decide_eq_false_iff_not, beq_iff_eq, beq_eq_false_iff_ne, bne_iff_ne, Bool.and_eq_true, Bool.or_eq_true, Bool.not_eq_true', Bool.not_eq_false', Bool.and_eq_false_iff, Bool.or_eq_false_iff, Int.not_lt, Int.not_le] at hb) | skip) <;> (first | (exfalso; omega) | skip)))
    | ((first | (refine CallVC.pv hP (begin2_mk (ms.getD (i + 1) default) (minQ ms i)) rfl ?_) | (refine CallQ.pv hP (begin2_mk (ms.getD (i + 1) default) (minQ ms i)) rfl ?_)); simp only [GA, ↓GB, List.filterMap_cons, eq_self, BEq.rfl, simprocAttr, hnt, hT, hc])
    | (refine SX.loop (ι := { i : Nat // i < ms.length }) (fun i => ⟨[(0, .one (.c (.row 0))), (1, .one (.c (.clo 85 [] []))), (4, .one (.c (.loc 1 0))), (5, .one (.c (.loc 2 0))), (6, vv (.int .i64 ((i.1 + 1 : Nat) : Int)))], [mrow ms, .cells [.v (.int .i64 0), .v (.string (B [])), .v (.int .u64 0), .v (.int .i64 0), .v (.string (B []))] 62, .cells [.v (.int .i64 (minQ ms i.1).t), .v (.string (B (minQ ms i.1).s)), .v (.int .u64 (minQ ms i.1).q), .v (.int .i64 (minQ ms i.1).st), .v (.string (B (minQ ms i.1).d))] 62]⟩) (fun i => ms.length - i.1) ⟨0, h0⟩ ⟨[0, 1, 2], (LeR.of (by rw [hbl]; decide) (by simp only [GA, ↓GB, List.filterMap_cons, eq_self, BEq.rfl, simprocAttr, List.getD_cons_zero, List.getD_cons_succ, or_false, false_or, or_self, or_true, true_or, decide_true]; try (rfl)) (by simp only [GA, ↓GB, List.filterMap_cons, eq_self, BEq.rfl, simprocAttr, List.getD_cons_zero, List.getD_cons_succ, or_false, false_or, or_self, or_true, true_or, decide_true]; try (rfl)) (by decide) (by simp only [GA, ↓GB, List.filterMap_cons, eq_self, BEq.rfl, simprocAttr, List.getD_cons_zero, List.getD_cons_succ, or_false, false_or, or_self, or_true, true_or, decide_true]) (by simp only [GA, ↓GB, List.filterMap_cons, eq_self, BEq.rfl, simprocAttr, List.getD_cons_zero, List.getD_cons_succ, or_false, false_or, or_self, or_true, true_or, decide_true]) (by simp only [GA, ↓GB, List.filterMap_cons, eq_self, BEq.rfl, simprocAttr, List.getD_cons_zero, List.getD_cons_succ, or_false, false_or, or_self, or_true, true_or, decide_true]))⟩ ?_ <;> rintro ⟨i, hi⟩ <;> simp only [] at hi ⊢)
    | (refine ⟨(ms.getD (i + 1) default).cells, rfl, mks_at _ _ (by omega), ?_⟩ <;> simp only [Mk.cells, GA, ↓GB, List.filterMap_cons, eq_self, BEq.rfl, simprocAttr, hnt, hT])
    | (refine ⟨(ms.getD 0 default).cells, rfl, mks_at ms 0 h0, ?_⟩ <;> simp only [Mk.cells, GA, ↓GB, List.filterMap_cons, eq_self, BEq.rfl, simprocAttr, hnt, hT])
    | (refine SX.block ?_)
    | (refine and_mk ?_ ?_; (focus first | decide | omega | rfl | assumption | (simp only [List.length_append, List.length_cons, List.length_nil, B_size]; omega) | (simp; done)))
    | (refine And.intro ?_ ?_))
  all_goals (try refine Done.mk ?_)
  · have e : minQ ms (i + 1) = ms.getD (i + 1) default := by simp only [minQ, hb, if_true]
    refine ⟨⟨i + 1, by omega⟩, [0, 1, 2], (LeR.of (by rw [hbl]; decide) (by simp only [GA, ↓GB, List.filterMap_cons, eq_self, BEq.rfl, simprocAttr, List.getD_cons_zero, List.getD_cons_succ, or_false, false_or, or_self, or_true, true_or, decide_true]; try (first | (rw [wI64 (by omega) (by omega)]; simp; done) | rw [e])) (by simp only [GA, ↓GB, List.filterMap_cons, eq_self, BEq.rfl, simprocAttr, List.getD_cons_zero, List.getD_cons_succ, or_false, false_or, or_self, or_true, true_or, decide_true]; try (first | (rw [wI64 (by omega) (by omega)]; simp; done) | rw [e])) (by decide) (by simp only [GA, ↓GB, List.filterMap_cons, eq_self, BEq.rfl, simprocAttr, List.getD_cons_zero, List.getD_cons_succ, or_false, false_or, or_self, or_true, true_or, decide_true]) (by simp only [GA, ↓GB, List.filterMap_cons, eq_self, BEq.rfl, simprocAttr, List.getD_cons_zero, List.getD_cons_succ, or_false, false_or, or_self, or_true, true_or, decide_true]) (by simp only [GA, ↓GB, List.filterMap_cons, eq_self, BEq.rfl, simprocAttr, List.getD_cons_zero, List.getD_cons_succ, or_false, false_or, or_self, or_true, true_or, decide_true])), by show ms.length - (i + 1) < ms.length - i; omega⟩
  · have e : minQ ms (i + 1) = minQ ms i := by simp only [minQ, show ¬ cmpI (ms.getD (i + 1) default).q (minQ ms i).q < 0 by omega, if_false]
    refine ⟨⟨i + 1, by omega⟩, [0, 1, 2], (LeR.of (by rw [hbl]; decide) (by simp only [GA, ↓GB, List.filterMap_cons, eq_self, BEq.rfl, simprocAttr, List.getD_cons_zero, List.getD_cons_succ, or_false, false_or, or_self, or_true, true_or, decide_true]; try (first | (rw [wI64 (by omega) (by omega)]; simp; done) | rw [e])) (by simp only [GA, ↓GB, List.filterMap_cons, eq_self, BEq.rfl, simprocAttr, List.getD_cons_zero, List.getD_cons_succ, or_false, false_or, or_self, or_true, true_or, decide_true]; try (first | (rw [wI64 (by omega) (by omega)]; simp; done) | rw [e])) (by decide) (by simp only [GA, ↓GB, List.filterMap_cons, eq_self, BEq.rfl, simprocAttr, List.getD_cons_zero, List.getD_cons_succ, or_false, false_or, or_self, or_true, true_or, decide_true]) (by simp only [GA, ↓GB, List.filterMap_cons, eq_self, BEq.rfl, simprocAttr, List.getD_cons_zero, List.getD_cons_succ, or_false, false_or, or_self, or_true, true_or, decide_true]) (by simp only [GA, ↓GB, List.filterMap_cons, eq_self, BEq.rfl, simprocAttr, List.getD_cons_zero, List.getD_cons_succ, or_false, false_or, or_self, or_true, true_or, decide_true])), by show ms.length - (i + 1) < ms.length - i; omega⟩
  · obtain rfl : i = ms.length - 1 := by omega
    (refine hN0 _ _ ⟨[0], _, _, ?_, ?_, ?_, ⟨rfl, rfl⟩⟩; (focus exact LeR.of rfl trivial (by simp only [GA, ↓GB, List.filterMap_cons, eq_self, BEq.rfl, simprocAttr, List.getD_cons_zero, List.getD_cons_succ, or_false, false_or, or_self, or_true, true_or, decide_true]) (by decide) rfl rfl rfl); rotate_left; (focus rfl))
    rfl
end Go.Proofs.YtbdacbcpniegiaaDoor
namespace Go.Proofs.YtbdacbcpniegiaaDoor
open Go Go.RowKit Go.Proofs Go.Sx
set_option maxHeartbeats 4000000
set_option maxRecDepth 100000
set_option linter.unusedSimpArgs false
set_option linter.unusedVariables false
theorem mks_one (ms : List Mk) : ∀ u ∈ mks ms, u.oneCell' = true := by
  intro u hu
  simp only [mks, List.mem_flatMap] at hu
  obtain ⟨m, _, hu⟩ := hu
  simp only [Mk.cells, List.mem_cons, List.not_mem_nil, or_false] at hu
  rcases hu with rfl | rfl | rfl | rfl | rfl <;> rfl
theorem clone_ctr (ms : List Mk) (hms : ms.length ≤ 1000000) : Ctr Tryd.prog [] 90 [mrow ms] [.one (.c (.row 0))]
    (fun os v => os = [mrow ms, mrow ms] ∧ v = .one (.c (.row 1))) := by
  refine Ctr.nilRow 62 5 (Ctr.less ?_)
  intro X0 hP0 hG0 N0 hN0
  refine CallVC.inline (f := 90) (by rw [hP0]; exact Tryd.func90) rfl Tryd.ntmps90 rfl (by simp) ?_
  intro X K hU hnt hbl hK
  have hP : X.P = Tryd.prog := by rw [hU.P, hP0]
  have hG := hG0.under hU
  have hT : X.P.underlying 59 = some (TypeDesc.slice 62) ∧ elemSz X.P 59 = some (62, 5) ∧ zeroCells X.P 62 = some [(Value.int IntKind.i64 0), (Value.string { data := #[] }), (Value.int IntKind.u64 0), (Value.int IntKind.i64 0), (Value.string { data := #[] })] ∧ elemInf X.P 59 = some (62, 5, 56, (Value.agg #[(Value.int IntKind.i64 0), (Value.string { data := #[] }), (Value.int IntKind.u64 0), (Value.int IntKind.i64 0), (Value.string { data := #[] })])) ∧ isStrT X.P 59 = false := by rw [hP]; exact ⟨Tryd.underlying59, Ty.el59, Ty.ze62, Ty.ei59, Ty.is59⟩
  simp only [GA, ↓GB, List.filterMap_cons, eq_self, BEq.rfl, simprocAttr] at hbl ⊢
  repeat' (first
    | (refine SX.seqK ?_; intro N hN)
    | ((first | (refine SX.ops ?_)); simp only [GA, ↓GB, List.filterMap_cons, eq_self, BEq.rfl, simprocAttr, hnt, hT])
    | ((first | refine SX.skip ?_ | refine SX.exit ?_ | refine SX.label ?_); try simp only [GA, ↓GB, List.filterMap_cons, eq_self, BEq.rfl, simprocAttr])
    | (refine SX.cond rfl (fun hb => ?_) (fun hb => ?_) <;> ((first | cases hb | (simp only [decide_eq_true_eq, decide_eq_false_iff_not, beq_iff_eq, beq_eq_false_iff_ne, bne_iff_ne, Bool.and_eq_true, Bool.or_eq_true, Bool.not_eq_true', Bool.not_eq_false', Bool.and_eq_false_iff, Bool.or_eq_false_iff, Int.not_lt, Int.not_le] at hb) | skip) <;> (first | (exfalso; omega) | skip)))
    | (refine SX.ret ?_; try simp only [GA, ↓GB, List.filterMap_cons, eq_self, BEq.rfl, simprocAttr])
    | (refine hN _ ?_; clear hN N)
    | ((first | refine hK _ _ (FinI.ret3 ?_) | refine hK _ _ (FinI.nrm3 ?_)); simp only [GA, ↓GB, List.filterMap_cons, eq_self, BEq.rfl, simprocAttr, finP_s, hnt, hT]; refine Done.out ?_)
    | (clear hN N; first | (refine hN _ ?_; clear hN N) | (clear hN N; first | (refine hN _ ?_; clear hN N) | (clear hN N; first | (refine hN _ ?_; clear hN N) | (clear hN N; first | (refine hN _ ?_; clear hN N) | (clear hN N; first | (refine hN _ ?_; clear hN N) | (refine hN _ ?_; clear hN N))))))
    | (refine bif2.mk (fun hb => ?_) (fun hb => ?_) <;> (try simp only [hb, GA, ↓GB, List.filterMap_cons, eq_self, BEq.rfl, simprocAttr, hnt, hT]) <;> ((first | cases hb | (simp only [decide_eq_true_eq, decide_eq_false_iff_not, beq_iff_eq, beq_eq_false_iff_ne, bne_iff_ne, Bool.and_eq_true, Bool.or_eq_true, Bool.not_eq_true', Bool.not_eq_false', Bool.and_eq_false_iff, Bool.or_eq_false_iff, Int.not_lt, Int.not_le] at hb) | skip) <;> (first | (exfalso; omega) | skip)))
    | (refine VO.rowNil (e' := 62) rfl rfl rfl (by rw [hP]; kernel_rfl) (fun b hb0 => ?_) <;> simp only [GA, ↓GB, List.filterMap_cons, eq_self, BEq.rfl, simprocAttr, hnt, hT])
    | (refine VO.closeRow (t := 5) (j := 1) (us := []) (sz := 5) (e := 62) (n := 0) (cap := 0) rfl rfl rfl (Nat.le_refl _) (Nat.zero_le _) ?_ <;> refine VO.appendRow (i := 2) (j := 0) (e := 62) (e' := 62) (sz := 5) rfl rfl (by rw [hP]; exact Ty.ei59) rfl rfl (mks_one ms) (by simp only [maxLen]; omega) (by omega) ?_ <;> simp only [GA, ↓GB, List.filterMap_cons, eq_self, BEq.rfl, simprocAttr, hnt, hT, Nat.zero_add])
    | (refine SX.block ?_)
    | (refine and_mk ?_ ?_; (focus first | decide | omega | rfl | assumption | (simp only [List.length_append, List.length_cons, List.length_nil, B_size]; omega) | (simp; done)))
    | (refine And.intro ?_ ?_))
  all_goals (try refine Done.mk ?_)
  · have h0 := hb0 rfl
    obtain rfl : ms = [] := List.length_eq_zero_iff.1 h0
    refine hN0 _ _ ⟨[0], [mrow []], vv (.slice none 0 0), ?_, rfl, rfl, .inr ⟨rfl, rfl, rfl⟩⟩
    exact LeR.of rfl trivial ⟨.inr rfl, trivial⟩ (by decide) rfl rfl rfl
  · refine hN0 _ _ ⟨[0, 3], [mrow ms, mrow ms], .one (.c (.row 1)), ?_, rfl, rfl, .inl ⟨rfl, rfl⟩⟩
    exact LeR.of rfl trivial ⟨.inr rfl, .inr rfl, trivial⟩ (by decide) rfl rfl rfl
end Go.Proofs.YtbdacbcpniegiaaDoor
namespace Go.Proofs.YtbdacbcpniegiaaDoor
open Go Go.RowKit Go.Proofs Go.Sx
set_option maxHeartbeats 4000000
set_option maxRecDepth 100000
set_option linter.unusedSimpArgs false
set_option linter.unusedVariables false
theorem idxI_spec (p : Mk → Bool) (ms : List Mk) : (idxI p ms = -1 ∧ ∀ j, j < ms.length → p (ms.getD j default) = false) ∨ ∃ k, k < ms.length ∧ idxI p ms = (k : Int) ∧ p (ms.getD k default) = true ∧ ∀ j, j < k → p (ms.getD j default) = false := by
  unfold idxI
  cases h : ms.findIdx? p with
  | none =>
    refine .inl ⟨rfl, fun j hj => ?_⟩
    rw [List.findIdx?_eq_none_iff] at h
    rw [List.getD_eq_getElem?_getD, List.getElem?_eq_getElem hj]
    exact h _ (List.getElem_mem hj)
  | some k =>
    rw [List.findIdx?_eq_some_iff_getElem] at h
    obtain ⟨hk, hp, hn⟩ := h
    refine .inr ⟨k, hk, rfl, by simpa [List.getD_eq_getElem?_getD, List.getElem?_eq_getElem hk] using hp, fun j hj => ?_⟩
    have := hn j hj
    simpa [List.getD_eq_getElem?_getD, List.getElem?_eq_getElem (show j < ms.length by omega)] using this
theorem filter_none (p : Mk → Bool) (ms : List Mk) (h : ∀ j, j < ms.length → p (ms.getD j default) = false) : (ms.filter fun m => !p m) = ms := by
  rw [List.filter_eq_self]
  intro x hx
  obtain ⟨j, hj, rfl⟩ := List.mem_iff_getElem.1 hx
  have := h j hj
  rw [List.getD_eq_getElem?_getD, List.getElem?_eq_getElem hj] at this
  simpa using this
theorem take_filter (p : Mk → Bool) (ms : List Mk) (k : Nat) (hk : k < ms.length) (hp : p (ms.getD k default) = true) (hn : ∀ j, j < k → p (ms.getD j default) = false) : ms.take k = ((ms.take (k + 1)).filter fun m => !p m) := by
  rw [List.take_succ_eq_append_getElem hk, List.filter_append]
  rw [List.getD_eq_getElem?_getD, List.getElem?_eq_getElem hk] at hp
  have h1 : ([ms[k]].filter fun m => !p m) = [] := by simp at hp; simp [hp]
  rw [h1, List.append_nil]
  refine (filter_none p _ fun j hj => ?_).symm
  have := hn j (by simp at hj; omega)
  simp only [List.getD_eq_getElem?_getD] at this ⊢
  rw [List.getElem?_take_of_lt (by simp at hj; omega)]
  exact this
theorem getD_drop (l ms : List Mk) (j : Nat) (h : l.drop j = ms.drop j) (hj : j < ms.length) : l.getD j default = ms.getD j default := by
  have := congrArg (fun x : List Mk => x[0]?) h
  simp only [List.getElem?_drop, Nat.add_zero] at this
  rw [List.getD_eq_getElem?_getD, List.getD_eq_getElem?_getD, this]
theorem mks_set : ∀ (l : List Mk) (i : Nat) (m : Mk), i < l.length → (mks l).take (i * 5) ++ m.cells ++ (mks l).drop (i * 5 + 5) = mks (l.set i m)
  | [], i, m, h => by simp at h
  | x :: l, 0, m, h => by
    simp only [Nat.zero_mul, List.take_zero, List.nil_append, List.set_cons_zero, mks_cons, Nat.zero_add]
    rw [List.drop_append, List.drop_of_length_le (by simp [Mk.cells])]
    simp [Mk.cells]
  | x :: l, i + 1, m, h => by
    have := mks_set l i m (by simpa using h)
    rw [List.set_cons_succ, mks_cons, mks_cons, ← this, show (i + 1) * 5 = x.cells.length + i * 5 by simp [Mk.cells]; omega, List.take_append, List.take_of_length_le (by omega), Nat.add_assoc, List.drop_append, List.drop_of_length_le (by omega)]
    simp
theorem lp_keep (p : Mk → Bool) (ms l : List Mk) (i j : Nat) (hl : l.length = ms.length) (hij : i < j) (hj : j < ms.length) (hft : l.take i = ((ms.take j).filter fun m => !p m)) (hp : p (ms.getD j default) = false) :
    (l.set i (ms.getD j default)).take (i + 1) = ((ms.take (j + 1)).filter fun m => !p m) := by
  have e : ms.getD j default = ms[j] := by rw [List.getD_eq_getElem?_getD, List.getElem?_eq_getElem hj]; rfl
  generalize ms.getD j default = v at *
  rw [List.take_succ_eq_append_getElem (by simp; omega), List.take_succ_eq_append_getElem hj, List.filter_append, ← hft, List.take_set_of_le (Nat.le_refl _), ← e]
  simp [hp]
theorem lp_skip (p : Mk → Bool) (ms l : List Mk) (i j : Nat) (hj : j < ms.length) (hft : l.take i = ((ms.take j).filter fun m => !p m)) (hp : p (ms.getD j default) = true) :
    l.take i = ((ms.take (j + 1)).filter fun m => !p m) := by
  have e : ms.getD j default = ms[j] := by rw [List.getD_eq_getElem?_getD, List.getElem?_eq_getElem hj]; rfl
  rw [List.take_succ_eq_append_getElem hj, List.filter_append, ← hft]
  rw [e] at hp
  simp [hp]
theorem lp_drop (ms l : List Mk) (i j : Nat) (v : Mk) (hij : i < j) (hdr : l.drop j = ms.drop j) : (l.set i v).drop (j + 1) = ms.drop (j + 1) := by
  rw [List.drop_set_of_lt (by omega), ← List.drop_drop (i := 1) (j := j), ← List.drop_drop (i := 1) (j := j), hdr]
theorem lp_drop' (ms l : List Mk) (j : Nat) (hdr : l.drop j = ms.drop j) : l.drop (j + 1) = ms.drop (j + 1) := by
  rw [← List.drop_drop (i := 1) (j := j), ← List.drop_drop (i := 1) (j := j), hdr]
theorem lp_end (p : Mk → Bool) (ms l : List Mk) (i j : Nat) (ys vs ds : List Value) (hl : l.length = ms.length) (hij : i < j) (hj : j = ms.length) (hft : l.take i = ((ms.take j).filter fun m => !p m)) :
    LO.row 62 5 i (List.take (i * 5) (List.take (0 + i * 5) (mks l ++ ys) ++ vs ++ ds)) = mrow (ms.filter fun m => !p m) := by
  subst hj
  rw [List.take_length] at hft
  have hi : (ms.filter fun m => !p m).length = i := by rw [← hft]; simp; omega
  have hle : i * 5 ≤ (mks l).length := by rw [mks_length]; omega
  simp only [Nat.zero_add, mrow, hi]
  congr 1
  rw [List.append_assoc, List.take_append_of_le_length (by simp; omega), List.take_take, Nat.min_self, List.take_append_of_le_length hle, mks_take, hft]
theorem deleteFuncE (ms : List Mk) (hms : ms.length ≤ 1000000)  : Ctr Tryd.prog [] 87 [mrow ms] [.one (.c (.row 0)), .one (.c (.clo 93 [] []))]
    (fun os v => os = [.gone, mrow (ms.filter fun m => !isPend m)] ∧ v = .one (.c (.row 1))) := by
  refine Ctr.less ?_
  have hrun : ∀ (m : Mk) (w : World), Calls Tryd.prog 93 #[.agg #[.int .i64 m.t, .string (B m.s), .int .u64 m.q, .int .i64 m.st, .string (B m.d)]] w fun x w' => x = .returned (.bool (isPend m)) ∧ Below w.heap.size w w' := fun m => erase1_any _ _ _ _ _
  rcases idxI_spec isPend ms with ⟨he, hall⟩ | ⟨k0, hk0, he, hp0, hn0⟩
  · have hfil : (ms.filter fun m => !isPend m) = ms := filter_none _ ms hall
    rw [hfil]
    intro X0 hP0 hG0 N0 hN0
    refine CallVC.inline (f := 87) (by rw [hP0]; exact Tryd.func87) rfl Tryd.ntmps87 rfl (by simp) ?_
    intro X K hU hnt hbl hK
    have hP : X.P = Tryd.prog := by rw [hU.P, hP0]
    have hG := hG0.under hU
    have hT : calleeOk X.P 130 = true ∧ X.P.underlying 59 = some (TypeDesc.slice 62) ∧ elemSz X.P 59 = some (62, 5) ∧ aggOf X.P 62 = some true ∧ szOf X.P 62 = some 5 ∧ zeroCells X.P 62 = some [(Value.int IntKind.i64 0), (Value.string { data := #[] }), (Value.int IntKind.u64 0), (Value.int IntKind.i64 0), (Value.string { data := #[] })] ∧ isStrT X.P 59 = false ∧ elemInf X.P 59 = some (62, 5, 56, (Value.agg #[(Value.int IntKind.i64 0), (Value.string { data := #[] }), (Value.int IntKind.u64 0), (Value.int IntKind.i64 0), (Value.string { data := #[] })])) := by rw [hP]; exact ⟨Ty.co130, Tryd.underlying59, Ty.el59, Ty.ag62, Ty.sz62, Ty.ze62, Ty.is59, Ty.ei59⟩
    simp only [GA, ↓GB, List.filterMap_cons, eq_self, BEq.rfl, simprocAttr] at hbl ⊢
    have hc : calleeOk X.P 93 = true := by rw [hP]; kernel_rfl
    refine SX.moveRow (t := 0) (i := 0) rfl rfl ?_
    simp only [GA, ↓GB, List.filterMap_cons, eq_self, BEq.rfl, simprocAttr]
    repeat' (first
      | (refine SX.seqK ?_; intro N hN)
      | ((first | (refine SX.ops ?_)); simp only [GA, ↓GB, List.filterMap_cons, eq_self, BEq.rfl, simprocAttr, hnt, hT, hc, he])
      | ((first | refine SX.skip ?_ | refine SX.exit ?_ | refine SX.label ?_); try simp only [GA, ↓GB, List.filterMap_cons, eq_self, BEq.rfl, simprocAttr])
      | (refine SX.cond rfl (fun hb => ?_) (fun hb => ?_) <;> ((first | cases hb | (simp only [decide_eq_true_eq, decide_eq_false_iff_not, beq_iff_eq, beq_eq_false_iff_ne, bne_iff_ne, Bool.and_eq_true, Bool.or_eq_true, Bool.not_eq_true', Bool.not_eq_false', Bool.and_eq_false_iff, Bool.or_eq_false_iff, Int.not_lt, Int.not_le] at hb) | skip) <;> (first | (exfalso; omega) | skip)))
      | (refine SX.ret ?_; try simp only [GA, ↓GB, List.filterMap_cons, eq_self, BEq.rfl, simprocAttr])
      | (refine hN _ ?_; clear hN N)
      | ((first | refine hK _ _ (FinI.ret3 ?_) | refine hK _ _ (FinI.nrm3 ?_)); simp only [GA, ↓GB, List.filterMap_cons, eq_self, BEq.rfl, simprocAttr, finP_s, hnt, hT, hc, he]; refine Done.out ?_)
      | (clear hN N; first | (refine hN _ ?_; clear hN N) | (clear hN N; first | (refine hN _ ?_; clear hN N) | (clear hN N; first | (refine hN _ ?_; clear hN N) | (clear hN N; first | (refine hN _ ?_; clear hN N) | (clear hN N; first | (refine hN _ ?_; clear hN N) | (refine hN _ ?_; clear hN N))))))
      | (refine bif2.mk (fun hb => ?_) (fun hb => ?_) <;> (try simp only [hb, GA, ↓GB, List.filterMap_cons, eq_self, BEq.rfl, simprocAttr, hnt, hT, hc, he]) <;> ((first | cases hb | (simp only [decide_eq_true_eq, decide_eq_false_iff_not, beq_iff_eq, beq_eq_false_iff_ne, bne_iff_ne, Bool.and_eq_true, Bool.or_eq_true, Bool.not_eq_true', Bool.not_eq_false', Bool.and_eq_false_iff, Bool.or_eq_false_iff, Int.not_lt, Int.not_le] at hb) | skip) <;> (first | (exfalso; omega) | skip)))
      | ((first | (refine CallVC.pv hP (hrun (ms.getD j default)) rfl ?_) | (refine CallQ.pv hP (hrun (ms.getD j default)) rfl ?_) | (refine Ctr.use (indexFuncE ms hms) hP ?_ [1] ?_ rfl rfl ?_; (focus (intro p hp; cases hp)); (focus (refine LeR.of rfl trivial ?_ ?_ ?_ ?_ ?_ <;> first | decide | (simp only [GA, ↓GB, List.filterMap_cons, eq_self, BEq.rfl, simprocAttr, List.getD_cons_zero, List.getD_cons_succ, or_false, false_or, or_self, or_true, true_or, decide_true]; done))); intro os' s hR; obtain ⟨rfl, rfl⟩ := hR)); simp only [GA, ↓GB, List.filterMap_cons, eq_self, BEq.rfl, simprocAttr, hnt, hT, hc, he])
      | (refine SX.block ?_)
      | (refine and_mk ?_ ?_; (focus first | decide | omega | rfl | assumption | (simp only [List.length_append, List.length_cons, List.length_nil, B_size]; omega) | (simp; done)))
      | (refine And.intro ?_ ?_))
    all_goals (try refine Done.mk ?_)
    all_goals ((refine hN0 _ _ ⟨[0, 1], _, _, ?_, ?_, ?_, ⟨rfl, rfl⟩⟩; (focus exact LeR.of rfl trivial (by simp only [GA, ↓GB, List.filterMap_cons, eq_self, BEq.rfl, simprocAttr, List.getD_cons_zero, List.getD_cons_succ, or_false, false_or, or_self, or_true, true_or, decide_true]) (by decide) rfl rfl rfl); rotate_left; (focus rfl)))
    all_goals rfl
  · intro X0 hP0 hG0 N0 hN0
    refine CallVC.inline (f := 87) (by rw [hP0]; exact Tryd.func87) rfl Tryd.ntmps87 rfl (by simp) ?_
    intro X K hU hnt hbl hK
    have hP : X.P = Tryd.prog := by rw [hU.P, hP0]
    have hG := hG0.under hU
    have hT : calleeOk X.P 130 = true ∧ X.P.underlying 59 = some (TypeDesc.slice 62) ∧ elemSz X.P 59 = some (62, 5) ∧ aggOf X.P 62 = some true ∧ szOf X.P 62 = some 5 ∧ zeroCells X.P 62 = some [(Value.int IntKind.i64 0), (Value.string { data := #[] }), (Value.int IntKind.u64 0), (Value.int IntKind.i64 0), (Value.string { data := #[] })] ∧ isStrT X.P 59 = false ∧ elemInf X.P 59 = some (62, 5, 56, (Value.agg #[(Value.int IntKind.i64 0), (Value.string { data := #[] }), (Value.int IntKind.u64 0), (Value.int IntKind.i64 0), (Value.string { data := #[] })])) := by rw [hP]; exact ⟨Ty.co130, Tryd.underlying59, Ty.el59, Ty.ag62, Ty.sz62, Ty.ze62, Ty.is59, Ty.ei59⟩
    simp only [GA, ↓GB, List.filterMap_cons, eq_self, BEq.rfl, simprocAttr] at hbl ⊢
    have hc : calleeOk X.P 93 = true := by rw [hP]; kernel_rfl
    refine SX.moveRow (t := 0) (i := 0) rfl rfl ?_
    simp only [GA, ↓GB, List.filterMap_cons, eq_self, BEq.rfl, simprocAttr]
    repeat' (first
      | (refine SX.openRow (code := .seq (.region 11 _ _) _) (t := 0) (i := 1) rfl rfl (by omega) (fun cap ys hcap1 hcap2 hys => ?_) <;> simp only [GA, ↓GB, List.filterMap_cons, eq_self, BEq.rfl, simprocAttr])
      | (refine SX.closeRow (code := .ret) (t := 4) (j := 2) (sz := 5) (cap := cap) (n := i) rfl rfl (by simp only [List.length_append, List.length_take, List.length_drop, mks_length, hvs, hys]; omega) (by omega) hcap2 ?_ <;> simp only [GA, ↓GB, List.filterMap_cons, eq_self, BEq.rfl, simprocAttr])
      | (refine SX.seqK ?_; intro N hN)
      | ((first | (refine SX.ops ?_)); simp only [GA, ↓GB, List.filterMap_cons, eq_self, BEq.rfl, simprocAttr, hnt, hT, hc, he])
      | ((first | refine SX.skip ?_ | refine SX.exit ?_ | refine SX.label ?_); try simp only [GA, ↓GB, List.filterMap_cons, eq_self, BEq.rfl, simprocAttr])
      | (refine SX.cond rfl (fun hb => ?_) (fun hb => ?_) <;> ((first | cases hb | (simp only [decide_eq_true_eq, decide_eq_false_iff_not, beq_iff_eq, beq_eq_false_iff_ne, bne_iff_ne, Bool.and_eq_true, Bool.or_eq_true, Bool.not_eq_true', Bool.not_eq_false', Bool.and_eq_false_iff, Bool.or_eq_false_iff, Int.not_lt, Int.not_le] at hb) | skip) <;> (first | (exfalso; omega) | skip)))
      | (refine SX.ret ?_; try simp only [GA, ↓GB, List.filterMap_cons, eq_self, BEq.rfl, simprocAttr])
      | (refine hN _ ?_; clear hN N)
      | ((first | refine hK _ _ (FinI.ret3 ?_) | refine hK _ _ (FinI.nrm3 ?_)); simp only [GA, ↓GB, List.filterMap_cons, eq_self, BEq.rfl, simprocAttr, finP_s, hnt, hT, hc, he]; refine Done.out ?_)
      | (clear hN N; first | (refine hN _ ?_; clear hN N) | (clear hN N; first | (refine hN _ ?_; clear hN N) | (clear hN N; first | (refine hN _ ?_; clear hN N) | (clear hN N; first | (refine hN _ ?_; clear hN N) | (clear hN N; first | (refine hN _ ?_; clear hN N) | (refine hN _ ?_; clear hN N))))))
      | (refine bif2.mk (fun hb => ?_) (fun hb => ?_) <;> (try simp only [hb, GA, ↓GB, List.filterMap_cons, eq_self, BEq.rfl, simprocAttr, hnt, hT, hc, he]) <;> ((first | cases hb | (simp only [decide_eq_true_eq, decide_eq_false_iff_not, beq_iff_eq, beq_eq_false_iff_ne, bne_iff_ne, Bool.and_eq_true, Bool.or_eq_true, Bool.not_eq_true', Bool.not_eq_false', Bool.and_eq_false_iff, Bool.or_eq_false_iff, Int.not_lt, Int.not_le] at hb) | skip) <;> (first | (exfalso; omega) | skip)))
      | ((first | (refine CallVC.pv hP (hrun (ms.getD j default)) rfl ?_) | (refine CallQ.pv hP (hrun (ms.getD j default)) rfl ?_) | (refine Ctr.use (indexFuncE ms hms) hP ?_ [1] ?_ rfl rfl ?_; (focus (intro p hp; cases hp)); (focus (refine LeR.of rfl trivial ?_ ?_ ?_ ?_ ?_ <;> first | decide | (simp only [GA, ↓GB, List.filterMap_cons, eq_self, BEq.rfl, simprocAttr, List.getD_cons_zero, List.getD_cons_succ, or_false, false_or, or_self, or_true, true_or, decide_true]; done))); intro os' s hR; obtain ⟨rfl, rfl⟩ := hR)); simp only [GA, ↓GB, List.filterMap_cons, eq_self, BEq.rfl, simprocAttr, hnt, hT, hc, he])
      | (refine SX.loop (ι := { p : Nat × Nat × List Mk // p.1 < p.2.1 ∧ p.2.1 ≤ ms.length ∧ p.2.2.length = ms.length ∧ p.2.2.take p.1 = ((ms.take p.2.1).filter fun m => !isPend m) ∧ p.2.2.drop p.2.1 = ms.drop p.2.1 }) (fun i => ⟨[(0, .one (.c (.row 1))), (1, .one (.c (.clo 93 [] []))), (5, vv (.int .i64 i.1.1)), (6, vv (.int .i64 i.1.2.1))], [.gone, .row 62 5 ms.length (mks i.1.2.2)]⟩) (fun i => ms.length - i.1.2.1) ⟨(k0, k0 + 1, ms), by simp, by simp; omega, rfl, take_filter _ ms k0 hk0 hp0 hn0, rfl⟩ ⟨[0, 1], (LeR.of (by rw [hbl]; decide) (by simp only [GA, ↓GB, List.filterMap_cons, eq_self, BEq.rfl, simprocAttr, List.getD_cons_zero, List.getD_cons_succ, or_false, false_or, or_self, or_true, true_or, decide_true]; try (rw [wI64 (by omega) (by omega)]; rfl)) (by simp only [GA, ↓GB, List.filterMap_cons, eq_self, BEq.rfl, simprocAttr, List.getD_cons_zero, List.getD_cons_succ, or_false, false_or, or_self, or_true, true_or, decide_true]; try (rw [wI64 (by omega) (by omega)]; rfl)) (by decide) (by simp only [GA, ↓GB, List.filterMap_cons, eq_self, BEq.rfl, simprocAttr, List.getD_cons_zero, List.getD_cons_succ, or_false, false_or, or_self, or_true, true_or, decide_true]) (by simp only [GA, ↓GB, List.filterMap_cons, eq_self, BEq.rfl, simprocAttr, List.getD_cons_zero, List.getD_cons_succ, or_false, false_or, or_self, or_true, true_or, decide_true]) (by simp only [GA, ↓GB, List.filterMap_cons, eq_self, BEq.rfl, simprocAttr, List.getD_cons_zero, List.getD_cons_succ, or_false, false_or, or_self, or_true, true_or, decide_true]))⟩ ?_ <;> rintro ⟨⟨i, j, l⟩, hij, hjn, hl, hft, hdr⟩ <;> simp only [] at hij hjn hl hft hdr ⊢)
      | (refine ⟨(ms.getD j default).cells, rfl, (by rw [← getD_drop l ms j hdr (by omega)]; exact mks_at l j (by omega)), ?_⟩ <;> simp only [Mk.cells, GA, ↓GB, List.filterMap_cons, eq_self, BEq.rfl, simprocAttr, hnt, hT])
      | (refine ⟨by rw [mks_length]; omega, ?_⟩)
      | ((rw [if_neg (show ¬ cap = i by omega)] <;> show VO X _ _ _ <;> refine VO.clearSl (j := 2) (e1 := 62) (us := mks l ++ ys) rfl (by rw [hP]; exact Ty.ei59) rfl (by rw [List.length_append, mks_length, hys]; omega) (fun q hq => by have hq : q < 5 := hq; rcases q with _ | _ | _ | _ | _ | q <;> first | rfl | omega) (by omega) rfl (fun vs hvs => ?_) <;> simp only [GA, ↓GB, List.filterMap_cons, eq_self, BEq.rfl, simprocAttr, hnt, hT]))
      | (refine SX.block ?_)
      | (refine and_mk ?_ ?_; (focus first | decide | omega | rfl | assumption | (simp only [List.length_append, List.length_cons, List.length_nil, B_size]; omega) | (simp; done)))
      | (refine And.intro ?_ ?_))
    all_goals (try refine Done.mk ?_)
    · refine ⟨⟨(i + 1, j + 1, l.set i (ms.getD j default)), by show i + 1 < j + 1; omega, by show j + 1 ≤ ms.length; omega, by show (l.set i (ms.getD j default)).length = ms.length; rw [List.length_set]; exact hl, lp_keep _ ms l i j hl hij (by omega) hft (by assumption), lp_drop ms l i j _ hij hdr⟩, [0, 1], (LeR.of (by rw [hbl]; decide) (by simp only [GA, ↓GB, List.filterMap_cons, eq_self, BEq.rfl, simprocAttr, List.getD_cons_zero, List.getD_cons_succ, or_false, false_or, or_self, or_true, true_or, decide_true]; try (first | (refine ⟨?_, ?_⟩ <;> (rw [wI64 (by omega) (by omega)]; rfl)) | exact congrArg _ (mks_set l i (ms.getD j default) (by omega)))) (by simp only [GA, ↓GB, List.filterMap_cons, eq_self, BEq.rfl, simprocAttr, List.getD_cons_zero, List.getD_cons_succ, or_false, false_or, or_self, or_true, true_or, decide_true]; try (first | (refine ⟨?_, ?_⟩ <;> (rw [wI64 (by omega) (by omega)]; rfl)) | exact congrArg _ (mks_set l i (ms.getD j default) (by omega)))) (by decide) (by simp only [GA, ↓GB, List.filterMap_cons, eq_self, BEq.rfl, simprocAttr, List.getD_cons_zero, List.getD_cons_succ, or_false, false_or, or_self, or_true, true_or, decide_true]) (by simp only [GA, ↓GB, List.filterMap_cons, eq_self, BEq.rfl, simprocAttr, List.getD_cons_zero, List.getD_cons_succ, or_false, false_or, or_self, or_true, true_or, decide_true]) (by simp only [GA, ↓GB, List.filterMap_cons, eq_self, BEq.rfl, simprocAttr, List.getD_cons_zero, List.getD_cons_succ, or_false, false_or, or_self, or_true, true_or, decide_true])), by show ms.length - (j + 1) < ms.length - j; omega⟩
    · refine ⟨⟨(i, j + 1, l), by show i < j + 1; omega, by show j + 1 ≤ ms.length; omega, hl, lp_skip _ ms l i j (by omega) hft (by assumption), lp_drop' ms l j hdr⟩, [0, 1], (LeR.of (by rw [hbl]; decide) (by simp only [GA, ↓GB, List.filterMap_cons, eq_self, BEq.rfl, simprocAttr, List.getD_cons_zero, List.getD_cons_succ, or_false, false_or, or_self, or_true, true_or, decide_true]; try ((rw [wI64 (by omega) (by omega)]; rfl))) (by simp only [GA, ↓GB, List.filterMap_cons, eq_self, BEq.rfl, simprocAttr, List.getD_cons_zero, List.getD_cons_succ, or_false, false_or, or_self, or_true, true_or, decide_true]; try ((rw [wI64 (by omega) (by omega)]; rfl))) (by decide) (by simp only [GA, ↓GB, List.filterMap_cons, eq_self, BEq.rfl, simprocAttr, List.getD_cons_zero, List.getD_cons_succ, or_false, false_or, or_self, or_true, true_or, decide_true]) (by simp only [GA, ↓GB, List.filterMap_cons, eq_self, BEq.rfl, simprocAttr, List.getD_cons_zero, List.getD_cons_succ, or_false, false_or, or_self, or_true, true_or, decide_true]) (by simp only [GA, ↓GB, List.filterMap_cons, eq_self, BEq.rfl, simprocAttr, List.getD_cons_zero, List.getD_cons_succ, or_false, false_or, or_self, or_true, true_or, decide_true])), by show ms.length - (j + 1) < ms.length - j; omega⟩
    · rw [lp_end isPend ms l i j ys vs _ hl hij (by omega) hft]
      (refine hN0 _ _ ⟨[0, 3], _, _, ?_, ?_, ?_, ⟨rfl, rfl⟩⟩; (focus exact LeR.of rfl trivial (by simp only [GA, ↓GB, List.filterMap_cons, eq_self, BEq.rfl, simprocAttr, List.getD_cons_zero, List.getD_cons_succ, or_false, false_or, or_self, or_true, true_or, decide_true]) (by decide) rfl rfl rfl); rotate_left; (focus rfl))
      rfl
theorem deleteFunc3 (ms : List Mk) (hms : ms.length ≤ 1000000) (b r su : Int) (t e : List UInt8) : Ctr Tryd.prog [] 87 [mrow ms, .cells [.v (.int .i64 b), .v (.string (B t)), .v (.int .u64 r), .v (.int .i64 su), .v (.string (B e))] 62] [.one (.c (.row 0)), .one (.c (.clo 88 [] [.loc 1 0]))]
    (fun os v => os = [.gone, .cells [.v (.int .i64 b), .v (.string (B t)), .v (.int .u64 r), .v (.int .i64 su), .v (.string (B e))] 62, mrow (ms.filter fun m => !(isMk b t r su e) m)] ∧ v = .one (.c (.row 2))) := by
  refine Ctr.less ?_
  have hrun : ∀ m : Mk, Ctr Tryd.prog [] 88 [.cells [.v (.int .i64 b), .v (.string (B t)), .v (.int .u64 r), .v (.int .i64 su), .v (.string (B e))] 62] [.one (.agg [.v (.int .i64 m.t), .v (.string (B m.s)), .v (.int .u64 m.q), .v (.int .i64 m.st), .v (.string (B m.d))]), .one (.c (.loc 0 0))]
    (fun os v => os = [.cells [.v (.int .i64 b), .v (.string (B t)), .v (.int .u64 r), .v (.int .i64 su), .v (.string (B e))] 62] ∧ v = vv (.bool ((isMk b t r su e) m))) := fun m => begin3_ctr _ _ _ _ _ _ _ _ _ _
  rcases idxI_spec (isMk b t r su e) ms with ⟨he, hall⟩ | ⟨k0, hk0, he, hp0, hn0⟩
  · have hfil : (ms.filter fun m => !(isMk b t r su e) m) = ms := filter_none _ ms hall
    rw [hfil]
    intro X0 hP0 hG0 N0 hN0
    refine CallVC.inline (f := 87) (by rw [hP0]; exact Tryd.func87) rfl Tryd.ntmps87 rfl (by simp) ?_
    intro X K hU hnt hbl hK
    have hP : X.P = Tryd.prog := by rw [hU.P, hP0]
    have hG := hG0.under hU
    have hT : calleeOk X.P 130 = true ∧ X.P.underlying 59 = some (TypeDesc.slice 62) ∧ elemSz X.P 59 = some (62, 5) ∧ aggOf X.P 62 = some true ∧ szOf X.P 62 = some 5 ∧ zeroCells X.P 62 = some [(Value.int IntKind.i64 0), (Value.string { data := #[] }), (Value.int IntKind.u64 0), (Value.int IntKind.i64 0), (Value.string { data := #[] })] ∧ isStrT X.P 59 = false ∧ elemInf X.P 59 = some (62, 5, 56, (Value.agg #[(Value.int IntKind.i64 0), (Value.string { data := #[] }), (Value.int IntKind.u64 0), (Value.int IntKind.i64 0), (Value.string { data := #[] })])) := by rw [hP]; exact ⟨Ty.co130, Tryd.underlying59, Ty.el59, Ty.ag62, Ty.sz62, Ty.ze62, Ty.is59, Ty.ei59⟩
    simp only [GA, ↓GB, List.filterMap_cons, eq_self, BEq.rfl, simprocAttr] at hbl ⊢
    have hc : calleeOk X.P 88 = true := by rw [hP]; kernel_rfl
    refine SX.moveRow (t := 0) (i := 0) rfl rfl ?_
    simp only [GA, ↓GB, List.filterMap_cons, eq_self, BEq.rfl, simprocAttr]
    repeat' (first
      | (refine SX.seqK ?_; intro N hN)
      | ((first | (refine SX.ops ?_)); simp only [GA, ↓GB, List.filterMap_cons, eq_self, BEq.rfl, simprocAttr, hnt, hT, hc, he])
      | ((first | refine SX.skip ?_ | refine SX.exit ?_ | refine SX.label ?_); try simp only [GA, ↓GB, List.filterMap_cons, eq_self, BEq.rfl, simprocAttr])
      | (refine SX.cond rfl (fun hb => ?_) (fun hb => ?_) <;> ((first | cases hb | (simp only [decide_eq_true_eq, decide_eq_false_iff_not, beq_iff_eq, beq_eq_false_iff_ne, bne_iff_ne, Bool.and_eq_true, Bool.or_eq_true, Bool.not_eq_true', Bool.not_eq_false', Bool.and_eq_false_iff, Bool.or_eq_false_iff, Int.not_lt, Int.not_le] at hb) | skip) <;> (first | (exfalso; omega) | skip)))
      | (refine SX.ret ?_; try simp only [GA, ↓GB, List.filterMap_cons, eq_self, BEq.rfl, simprocAttr])
      | (refine hN _ ?_; clear hN N)
      | ((first | refine hK _ _ (FinI.ret3 ?_) | refine hK _ _ (FinI.nrm3 ?_)); simp only [GA, ↓GB, List.filterMap_cons, eq_self, BEq.rfl, simprocAttr, finP_s, hnt, hT, hc, he]; refine Done.out ?_)
      | (clear hN N; first | (refine hN _ ?_; clear hN N) | (clear hN N; first | (refine hN _ ?_; clear hN N) | (clear hN N; first | (refine hN _ ?_; clear hN N) | (clear hN N; first | (refine hN _ ?_; clear hN N) | (clear hN N; first | (refine hN _ ?_; clear hN N) | (refine hN _ ?_; clear hN N))))))
      | (refine bif2.mk (fun hb => ?_) (fun hb => ?_) <;> (try simp only [hb, GA, ↓GB, List.filterMap_cons, eq_self, BEq.rfl, simprocAttr, hnt, hT, hc, he]) <;> ((first | cases hb | (simp only [decide_eq_true_eq, decide_eq_false_iff_not, beq_iff_eq, beq_eq_false_iff_ne, bne_iff_ne, Bool.and_eq_true, Bool.or_eq_true, Bool.not_eq_true', Bool.not_eq_false', Bool.and_eq_false_iff, Bool.or_eq_false_iff, Int.not_lt, Int.not_le] at hb) | skip) <;> (first | (exfalso; omega) | skip)))
      | ((first | (refine Ctr.use (hrun (ms.getD j default)) hP ?_ [1] ?_ rfl rfl ?_; (focus (intro p hp; cases hp)); (focus (refine LeR.of rfl trivial ?_ ?_ ?_ ?_ ?_ <;> first | decide | (simp only [GA, ↓GB, List.filterMap_cons, eq_self, BEq.rfl, simprocAttr, List.getD_cons_zero, List.getD_cons_succ, or_false, false_or, or_self, or_true, true_or, decide_true]; done))); intro os' s hR; obtain ⟨rfl, rfl⟩ := hR) | (refine Ctr.use (indexFunc3 ms hms b r su t e) hP ?_ [2,1] ?_ rfl rfl ?_; (focus (intro p hp; cases hp)); (focus (refine LeR.of rfl trivial ?_ ?_ ?_ ?_ ?_ <;> first | decide | (simp only [GA, ↓GB, List.filterMap_cons, eq_self, BEq.rfl, simprocAttr, List.getD_cons_zero, List.getD_cons_succ, or_false, false_or, or_self, or_true, true_or, decide_true]; done))); intro os' s hR; obtain ⟨rfl, rfl⟩ := hR)); simp only [GA, ↓GB, List.filterMap_cons, eq_self, BEq.rfl, simprocAttr, hnt, hT, hc, he])
      | (refine SX.block ?_)
      | (refine and_mk ?_ ?_; (focus first | decide | omega | rfl | assumption | (simp only [List.length_append, List.length_cons, List.length_nil, B_size]; omega) | (simp; done)))
      | (refine And.intro ?_ ?_))
    all_goals (try refine Done.mk ?_)
    all_goals ((refine hN0 _ _ ⟨[0, 1, 2], _, _, ?_, ?_, ?_, ⟨rfl, rfl⟩⟩; (focus exact LeR.of rfl trivial (by simp only [GA, ↓GB, List.filterMap_cons, eq_self, BEq.rfl, simprocAttr, List.getD_cons_zero, List.getD_cons_succ, or_false, false_or, or_self, or_true, true_or, decide_true]) (by decide) rfl rfl rfl); rotate_left; (focus rfl)))
    all_goals rfl
  · intro X0 hP0 hG0 N0 hN0
    refine CallVC.inline (f := 87) (by rw [hP0]; exact Tryd.func87) rfl Tryd.ntmps87 rfl (by simp) ?_
    intro X K hU hnt hbl hK
    have hP : X.P = Tryd.prog := by rw [hU.P, hP0]
    have hG := hG0.under hU
    have hT : calleeOk X.P 130 = true ∧ X.P.underlying 59 = some (TypeDesc.slice 62) ∧ elemSz X.P 59 = some (62, 5) ∧ aggOf X.P 62 = some true ∧ szOf X.P 62 = some 5 ∧ zeroCells X.P 62 = some [(Value.int IntKind.i64 0), (Value.string { data := #[] }), (Value.int IntKind.u64 0), (Value.int IntKind.i64 0), (Value.string { data := #[] })] ∧ isStrT X.P 59 = false ∧ elemInf X.P 59 = some (62, 5, 56, (Value.agg #[(Value.int IntKind.i64 0), (Value.string { data := #[] }), (Value.int IntKind.u64 0), (Value.int IntKind.i64 0), (Value.string { data := #[] })])) := by rw [hP]; exact ⟨Ty.co130, Tryd.underlying59, Ty.el59, Ty.ag62, Ty.sz62, Ty.ze62, Ty.is59, Ty.ei59⟩
    simp only [GA, ↓GB, List.filterMap_cons, eq_self, BEq.rfl, simprocAttr] at hbl ⊢
    have hc : calleeOk X.P 88 = true := by rw [hP]; kernel_rfl
    refine SX.moveRow (t := 0) (i := 0) rfl rfl ?_
    simp only [GA, ↓GB, List.filterMap_cons, eq_self, BEq.rfl, simprocAttr]
    repeat' (first
      | (refine SX.openRow (code := .seq (.region 11 _ _) _) (t := 0) (i := 2) rfl rfl (by omega) (fun cap ys hcap1 hcap2 hys => ?_) <;> simp only [GA, ↓GB, List.filterMap_cons, eq_self, BEq.rfl, simprocAttr])
      | (refine SX.closeRow (code := .ret) (t := 4) (j := 3) (sz := 5) (cap := cap) (n := i) rfl rfl (by simp only [List.length_append, List.length_take, List.length_drop, mks_length, hvs, hys]; omega) (by omega) hcap2 ?_ <;> simp only [GA, ↓GB, List.filterMap_cons, eq_self, BEq.rfl, simprocAttr])
      | (refine SX.seqK ?_; intro N hN)
      | ((first | (refine SX.ops ?_)); simp only [GA, ↓GB, List.filterMap_cons, eq_self, BEq.rfl, simprocAttr, hnt, hT, hc, he])
      | ((first | refine SX.skip ?_ | refine SX.exit ?_ | refine SX.label ?_); try simp only [GA, ↓GB, List.filterMap_cons, eq_self, BEq.rfl, simprocAttr])
      | (refine SX.cond rfl (fun hb => ?_) (fun hb => ?_) <;> ((first | cases hb | (simp only [decide_eq_true_eq, decide_eq_false_iff_not, beq_iff_eq, beq_eq_false_iff_ne, bne_iff_ne, Bool.and_eq_true, Bool.or_eq_true, Bool.not_eq_true', Bool.not_eq_false', Bool.and_eq_false_iff, Bool.or_eq_false_iff, Int.not_lt, Int.not_le] at hb) | skip) <;> (first | (exfalso; omega) | skip)))
      | (refine SX.ret ?_; try simp only [GA, ↓GB, List.filterMap_cons, eq_self, BEq.rfl, simprocAttr])
      | (refine hN _ ?_; clear hN N)
      | ((first | refine hK _ _ (FinI.ret3 ?_) | refine hK _ _ (FinI.nrm3 ?_)); simp only [GA, ↓GB, List.filterMap_cons, eq_self, BEq.rfl, simprocAttr, finP_s, hnt, hT, hc, he]; refine Done.out ?_)
      | (clear hN N; first | (refine hN _ ?_; clear hN N) | (clear hN N; first | (refine hN _ ?_; clear hN N) | (clear hN N; first | (refine hN _ ?_; clear hN N) | (clear hN N; first | (refine hN _ ?_; clear hN N) | (clear hN N; first | (refine hN _ ?_; clear hN N) | (refine hN _ ?_; clear hN N))))))
      | (refine bif2.mk (fun hb => ?_) (fun hb => ?_) <;> (try simp only [hb, GA, ↓GB, List.filterMap_cons, eq_self, BEq.rfl, simprocAttr, hnt, hT, hc, he]) <;> ((first | cases hb | (simp only [decide_eq_true_eq, decide_eq_false_iff_not, beq_iff_eq, beq_eq_false_iff_ne, bne_iff_ne, Bool.and_eq_true, Bool.or_eq_true, Bool.not_eq_true', Bool.not_eq_false', Bool.and_eq_false_iff, Bool.or_eq_false_iff, Int.not_lt, Int.not_le] at hb) | skip) <;> (first | (exfalso; omega) | skip)))
      | ((first | (refine Ctr.use (hrun (ms.getD j default)) hP ?_ [1] ?_ rfl rfl ?_; (focus (intro p hp; cases hp)); (focus (refine LeR.of rfl trivial ?_ ?_ ?_ ?_ ?_ <;> first | decide | (simp only [GA, ↓GB, List.filterMap_cons, eq_self, BEq.rfl, simprocAttr, List.getD_cons_zero, List.getD_cons_succ, or_false, false_or, or_self, or_true, true_or, decide_true]; done))); intro os' s hR; obtain ⟨rfl, rfl⟩ := hR) | (refine Ctr.use (indexFunc3 ms hms b r su t e) hP ?_ [2,1] ?_ rfl rfl ?_; (focus (intro p hp; cases hp)); (focus (refine LeR.of rfl trivial ?_ ?_ ?_ ?_ ?_ <;> first | decide | (simp only [GA, ↓GB, List.filterMap_cons, eq_self, BEq.rfl, simprocAttr, List.getD_cons_zero, List.getD_cons_succ, or_false, false_or, or_self, or_true, true_or, decide_true]; done))); intro os' s hR; obtain ⟨rfl, rfl⟩ := hR)); simp only [GA, ↓GB, List.filterMap_cons, eq_self, BEq.rfl, simprocAttr, hnt, hT, hc, he])
      | (refine SX.loop (ι := { p : Nat × Nat × List Mk // p.1 < p.2.1 ∧ p.2.1 ≤ ms.length ∧ p.2.2.length = ms.length ∧ p.2.2.take p.1 = ((ms.take p.2.1).filter fun m => !(isMk b t r su e) m) ∧ p.2.2.drop p.2.1 = ms.drop p.2.1 }) (fun i => ⟨[(0, .one (.c (.row 2))), (1, .one (.c (.clo 88 [] [.loc 1 0]))), (5, vv (.int .i64 i.1.1)), (6, vv (.int .i64 i.1.2.1))], [.gone, .cells [.v (.int .i64 b), .v (.string (B t)), .v (.int .u64 r), .v (.int .i64 su), .v (.string (B e))] 62, .row 62 5 ms.length (mks i.1.2.2)]⟩) (fun i => ms.length - i.1.2.1) ⟨(k0, k0 + 1, ms), by simp, by simp; omega, rfl, take_filter _ ms k0 hk0 hp0 hn0, rfl⟩ ⟨[0, 1, 2], (LeR.of (by rw [hbl]; decide) (by simp only [GA, ↓GB, List.filterMap_cons, eq_self, BEq.rfl, simprocAttr, List.getD_cons_zero, List.getD_cons_succ, or_false, false_or, or_self, or_true, true_or, decide_true]; try (rw [wI64 (by omega) (by omega)]; rfl)) (by simp only [GA, ↓GB, List.filterMap_cons, eq_self, BEq.rfl, simprocAttr, List.getD_cons_zero, List.getD_cons_succ, or_false, false_or, or_self, or_true, true_or, decide_true]; try (rw [wI64 (by omega) (by omega)]; rfl)) (by decide) (by simp only [GA, ↓GB, List.filterMap_cons, eq_self, BEq.rfl, simprocAttr, List.getD_cons_zero, List.getD_cons_succ, or_false, false_or, or_self, or_true, true_or, decide_true]) (by simp only [GA, ↓GB, List.filterMap_cons, eq_self, BEq.rfl, simprocAttr, List.getD_cons_zero, List.getD_cons_succ, or_false, false_or, or_self, or_true, true_or, decide_true]) (by simp only [GA, ↓GB, List.filterMap_cons, eq_self, BEq.rfl, simprocAttr, List.getD_cons_zero, List.getD_cons_succ, or_false, false_or, or_self, or_true, true_or, decide_true]))⟩ ?_ <;> rintro ⟨⟨i, j, l⟩, hij, hjn, hl, hft, hdr⟩ <;> simp only [] at hij hjn hl hft hdr ⊢)
      | (refine ⟨(ms.getD j default).cells, rfl, (by rw [← getD_drop l ms j hdr (by omega)]; exact mks_at l j (by omega)), ?_⟩ <;> simp only [Mk.cells, GA, ↓GB, List.filterMap_cons, eq_self, BEq.rfl, simprocAttr, hnt, hT])
      | (refine ⟨by rw [mks_length]; omega, ?_⟩)
      | ((rw [if_neg (show ¬ cap = i by omega)] <;> show VO X _ _ _ <;> refine VO.clearSl (j := 3) (e1 := 62) (us := mks l ++ ys) rfl (by rw [hP]; exact Ty.ei59) rfl (by rw [List.length_append, mks_length, hys]; omega) (fun q hq => by have hq : q < 5 := hq; rcases q with _ | _ | _ | _ | _ | q <;> first | rfl | omega) (by omega) rfl (fun vs hvs => ?_) <;> simp only [GA, ↓GB, List.filterMap_cons, eq_self, BEq.rfl, simprocAttr, hnt, hT]))
      | (refine SX.block ?_)
      | (refine and_mk ?_ ?_; (focus first | decide | omega | rfl | assumption | (simp only [List.length_append, List.length_cons, List.length_nil, B_size]; omega) | (simp; done)))
      | (refine And.intro ?_ ?_))
    all_goals (try refine Done.mk ?_)
    · refine ⟨⟨(i + 1, j + 1, l.set i (ms.getD j default)), by show i + 1 < j + 1; omega, by show j + 1 ≤ ms.length; omega, by show (l.set i (ms.getD j default)).length = ms.length; rw [List.length_set]; exact hl, lp_keep _ ms l i j hl hij (by omega) hft (by assumption), lp_drop ms l i j _ hij hdr⟩, [0, 1, 2], (LeR.of (by rw [hbl]; decide) (by simp only [GA, ↓GB, List.filterMap_cons, eq_self, BEq.rfl, simprocAttr, List.getD_cons_zero, List.getD_cons_succ, or_false, false_or, or_self, or_true, true_or, decide_true]; try (first | (refine ⟨?_, ?_⟩ <;> (rw [wI64 (by omega) (by omega)]; rfl)) | exact congrArg _ (mks_set l i (ms.getD j default) (by omega)))) (by simp only [GA, ↓GB, List.filterMap_cons, eq_self, BEq.rfl, simprocAttr, List.getD_cons_zero, List.getD_cons_succ, or_false, false_or, or_self, or_true, true_or, decide_true]; try (first | (refine ⟨?_, ?_⟩ <;> (rw [wI64 (by omega) (by omega)]; rfl)) | exact congrArg _ (mks_set l i (ms.getD j default) (by omega)))) (by decide) (by simp only [GA, ↓GB, List.filterMap_cons, eq_self, BEq.rfl, simprocAttr, List.getD_cons_zero, List.getD_cons_succ, or_false, false_or, or_self, or_true, true_or, decide_true]) (by simp only [GA, ↓GB, List.filterMap_cons, eq_self, BEq.rfl, simprocAttr, List.getD_cons_zero, List.getD_cons_succ, or_false, false_or, or_self, or_true, true_or, decide_true]) (by simp only [GA, ↓GB, List.filterMap_cons, eq_self, BEq.rfl, simprocAttr, List.getD_cons_zero, List.getD_cons_succ, or_false, false_or, or_self, or_true, true_or, decide_true])), by show ms.length - (j + 1) < ms.length - j; omega⟩
    · refine ⟨⟨(i, j + 1, l), by show i < j + 1; omega, by show j + 1 ≤ ms.length; omega, hl, lp_skip _ ms l i j (by omega) hft (by assumption), lp_drop' ms l j hdr⟩, [0, 1, 2], (LeR.of (by rw [hbl]; decide) (by simp only [GA, ↓GB, List.filterMap_cons, eq_self, BEq.rfl, simprocAttr, List.getD_cons_zero, List.getD_cons_succ, or_false, false_or, or_self, or_true, true_or, decide_true]; try ((rw [wI64 (by omega) (by omega)]; rfl))) (by simp only [GA, ↓GB, List.filterMap_cons, eq_self, BEq.rfl, simprocAttr, List.getD_cons_zero, List.getD_cons_succ, or_false, false_or, or_self, or_true, true_or, decide_true]; try ((rw [wI64 (by omega) (by omega)]; rfl))) (by decide) (by simp only [GA, ↓GB, List.filterMap_cons, eq_self, BEq.rfl, simprocAttr, List.getD_cons_zero, List.getD_cons_succ, or_false, false_or, or_self, or_true, true_or, decide_true]) (by simp only [GA, ↓GB, List.filterMap_cons, eq_self, BEq.rfl, simprocAttr, List.getD_cons_zero, List.getD_cons_succ, or_false, false_or, or_self, or_true, true_or, decide_true]) (by simp only [GA, ↓GB, List.filterMap_cons, eq_self, BEq.rfl, simprocAttr, List.getD_cons_zero, List.getD_cons_succ, or_false, false_or, or_self, or_true, true_or, decide_true])), by show ms.length - (j + 1) < ms.length - j; omega⟩
    · rw [lp_end (isMk b t r su e) ms l i j ys vs _ hl hij (by omega) hft]
      (refine hN0 _ _ ⟨[0, 1, 4], _, _, ?_, ?_, ?_, ⟨rfl, rfl⟩⟩; (focus exact LeR.of rfl trivial (by simp only [GA, ↓GB, List.filterMap_cons, eq_self, BEq.rfl, simprocAttr, List.getD_cons_zero, List.getD_cons_succ, or_false, false_or, or_self, or_true, true_or, decide_true]) (by decide) rfl rfl rfl); rotate_left; (focus rfl))
      rfl
end Go.Proofs.YtbdacbcpniegiaaDoor
namespace Go.Proofs.YtbdacbcpniegiaaDoor
open Go Go.RowKit Go.Proofs Go.Sx
set_option maxHeartbeats 4000000
set_option maxRecDepth 100000
set_option linter.unusedSimpArgs false
set_option linter.unusedVariables false
theorem overlaps_run {P : Program} (hP : P = Tryd.prog) (w : World) (a b : Addr) (la ca lb cb : Nat) (cs cs2 : Array Value) (t t2 : TypeId) (h1 : w.heap[a.block]? = some (.cells cs t (0, 0))) (h2 : w.heap[b.block]? = some (.cells cs2 t2 (0, 0))) (hne : a.block ≠ b.block) (h0 : cs2.size ≠ 0) :
    (callFunc 131 #[.slice (some a) la ca, .slice (some b) lb cb]).run P w = .ok (.value (.bool false)) w := by
  subst hP
  rw [run_callFunc_extern Tryd.func131 (by kernel_rfl) (by kernel_rfl) (by kernel_rfl) (e := Extern.SlicesOverlaps.overlaps #[59, 59] #[4]) (by kernel_rfl),
    Lib.run_overlaps_apart w 59 4 62 (by kernel_rfl) 5 (sizeOf_run (by kernel_rfl)) a b la ca lb cb hne t t2 cs.size cs2.size (by simp [World.shape?, h1]) (by simp [World.shape?, h2]) h0 (by simp [World.frozen?, h1]) (by simp [World.frozen?, h1])]
  rfl
theorem insert_end (ms : List Mk) (hms : ms.length ≤ 1000000) (m : Mk) : Ctr Tryd.prog [] 83 [mrow ms, .cells [.v (.int .i64 m.t), .v (.string (B m.s)), .v (.int .u64 m.q), .v (.int .i64 m.st), .v (.string (B m.d))] 62] [.one (.c (.row 0)), vv (.int .i64 ms.length), .one (.c (.sl 1 0 1 1))]
    (fun os v => os = [.gone, .cells [.v (.int .i64 m.t), .v (.string (B m.s)), .v (.int .u64 m.q), .v (.int .i64 m.st), .v (.string (B m.d))] 62, mrow (ms ++ [m])] ∧ v = .one (.c (.row 2))) := by
  refine Ctr.less ?_
  intro X0 hP0 hG0 N0 hN0
  refine CallVC.inline (f := 83) (by rw [hP0]; exact Tryd.func83) rfl Tryd.ntmps83 rfl (by simp) ?_
  intro X K hU hnt hbl hK
  have hP : X.P = Tryd.prog := by rw [hU.P, hP0]
  have hG := hG0.under hU
  have hT : isStrT X.P 59 = false ∧ elemSz X.P 59 = some (62, 5) ∧ X.P.underlying 59 = some (TypeDesc.slice 62) ∧ elemInf X.P 59 = some (62, 5, 56, (Value.agg #[(Value.int IntKind.i64 0), (Value.string { data := #[] }), (Value.int IntKind.u64 0), (Value.int IntKind.i64 0), (Value.string { data := #[] })])) ∧ isStrT X.P 3 = false ∧ calleeOk X.P 131 = false ∧ calleeOk X.P 132 = true := by rw [hP]; exact ⟨Ty.is59, Ty.el59, Tryd.underlying59, Ty.ei59, Ty.is3, Ty.cx131, Ty.co132⟩
  simp only [GA, ↓GB, List.filterMap_cons, eq_self, BEq.rfl, simprocAttr] at hbl ⊢
  repeat' (first
    | (exact absurd hb (by simp))
    | (refine SX.seqK ?_; intro N hN)
    | ((first | (refine SX.ops ?_) | (refine SX.planT (id := 11) [.q [(0, [9]), (1, [1]), (2, [7]), (3, [47, 48]), (4, [46, 49]), (5, [0]), (6, [1]), (7, [51, 52])] none, .s 8] ?_ ?_ ?_; (focus first | (rw [hP]; kernel_rfl) | (rw [hU1P, hP]; kernel_rfl)); (focus kernel_rfl)) | (refine SX.planT (id := 15) [.q [(0, [0]), (1, [1]), (2, [7]), (3, [70, 71]), (4, [69, 72]), (5, [0]), (6, [1]), (7, [74, 75])] none, .s 8] ?_ ?_ ?_; (focus first | (rw [hP]; kernel_rfl) | (rw [hU1P, hP]; kernel_rfl)); (focus kernel_rfl))); simp only [GA, ↓GB, List.filterMap_cons, eq_self, BEq.rfl, simprocAttr, hnt, hT])
    | ((first | refine SX.skip ?_ | refine SX.exit ?_ | refine SX.label ?_); try simp only [GA, ↓GB, List.filterMap_cons, eq_self, BEq.rfl, simprocAttr])
    | (refine SX.cond rfl (fun hb => ?_) (fun hb => ?_) <;> ((first | cases hb | (simp only [decide_eq_true_eq, decide_eq_false_iff_not, beq_iff_eq, beq_eq_false_iff_ne, bne_iff_ne, Bool.and_eq_true, Bool.or_eq_true, Bool.not_eq_true', Bool.not_eq_false', Bool.and_eq_false_iff, Bool.or_eq_false_iff, Int.not_lt, Int.not_le] at hb) | skip) <;> (first | (exfalso; omega) | skip)))
    | (refine SX.ret ?_; try simp only [GA, ↓GB, List.filterMap_cons, eq_self, BEq.rfl, simprocAttr])
    | (refine hN _ ?_; clear hN N)
    | ((first | refine hK _ _ (FinI.ret3 ?_) | refine hK _ _ (FinI.nrm3 ?_)); simp only [GA, ↓GB, List.filterMap_cons, eq_self, BEq.rfl, simprocAttr, finP_s, hnt, hT]; refine Done.out ?_)
    | (clear hN N; first | (refine hN _ ?_; clear hN N) | (clear hN N; first | (refine hN _ ?_; clear hN N) | (clear hN N; first | (refine hN _ ?_; clear hN N) | (clear hN N; first | (refine hN _ ?_; clear hN N) | (clear hN N; first | (refine hN _ ?_; clear hN N) | (refine hN _ ?_; clear hN N))))))
    | (refine bif2.mk (fun hb => ?_) (fun hb => ?_) <;> (try simp only [hb, GA, ↓GB, List.filterMap_cons, eq_self, BEq.rfl, simprocAttr, hnt, hT]) <;> ((first | cases hb | (simp only [decide_eq_true_eq, decide_eq_false_iff_not, beq_iff_eq, beq_eq_false_iff_ne, bne_iff_ne, Bool.and_eq_true, Bool.or_eq_true, Bool.not_eq_true', Bool.not_eq_false', Bool.and_eq_false_iff, Bool.or_eq_false_iff, Int.not_lt, Int.not_le] at hb) | skip) <;> (first | (exfalso; omega) | skip)))
    | (refine SX.block ?_)
    | (refine and_mk ?_ ?_; (focus first | decide | omega | rfl | assumption | (simp only [List.length_append, List.length_cons, List.length_nil, B_size]; omega) | (simp; done)))
    | (refine And.intro ?_ ?_))
  all_goals (try refine Done.mk ?_)
  have e : LO.row 62 5 (ms.length + 1) (mks ms ++ [Value.int IntKind.i64 m.t, Value.string (B m.s), Value.int IntKind.u64 m.q, Value.int IntKind.i64 m.st, Value.string (B m.d)]) = mrow (ms ++ [m]) := by simp [mrow, mks_append, mks, Mk.cells]
  rw [e]
  (refine hN0 _ _ ⟨[0, 1, 2], _, _, ?_, ?_, ?_, ⟨rfl, rfl⟩⟩; (focus exact LeR.of rfl trivial (by simp only [GA, ↓GB, List.filterMap_cons, eq_self, BEq.rfl, simprocAttr, List.getD_cons_zero, List.getD_cons_succ, or_false, false_or, or_self, or_true, true_or, decide_true]) (by decide) rfl rfl rfl); rotate_left; (focus rfl))
  rfl
theorem cells_one (m : Mk) : ∀ u ∈ m.cells, u.oneCell' = true := by
  have := mks_one [m]
  simpa [mks] using this
theorem src_eq (ms : List Mk) (ys : List Value) (i : Nat) (hi : i < ms.length) : ((mks ms ++ ys).drop (0 + i * 5)).take ((ms.length - i) * 5) = mks (ms.drop i) := by
  rw [Nat.zero_add, List.drop_append_of_le_length (by rw [mks_length]; omega), mks_drop, List.take_append_of_le_length (by rw [mks_length]; simp), List.take_of_length_le (by rw [mks_length]; simp)]
theorem src_len (ms : List Mk) (i : Nat) : (mks (ms.drop i)).length = (ms.length - i) * 5 := by rw [mks_length]; simp
theorem ins_fin (ms : List Mk) (m : Mk) (i n : Nat) (hi : i < ms.length) (hn : n = ms.length + 1) (E : List Value) : LO.row 62 5 n (List.take (n * 5) (mks (ms.take i) ++ m.cells ++ mks (ms.drop i) ++ E)) = mrow (ms.take i ++ m :: ms.drop i) := by
  subst hn
  have l1 : (mks (ms.take i) ++ m.cells ++ mks (ms.drop i)).length = (ms.length + 1) * 5 := by simp [mks_length, Mk.cells]; omega
  rw [List.take_left' l1]
  have l2 : (ms.take i ++ m :: ms.drop i).length = ms.length + 1 := by simp; omega
  simp only [mrow, l2, mks_append, mks_cons, List.append_assoc]
theorem ins1 (ms : List Mk) (m : Mk) (i n : Nat) (hi : i < ms.length) (hn : n = ms.length + 1) (ys zs ys2 D E : List Value) :
    LO.row 62 5 n (List.take (n * 5) (List.take (0 + (i + 1) * 5) (List.take (0 + i * 5) (List.take (i * 5) (mks ms ++ ys) ++ zs ++ ys2) ++ m.cells ++ D) ++ mks (ms.drop i) ++ E)) = mrow (ms.take i ++ m :: ms.drop i) := by
  have e1 : List.take (i * 5) (mks ms ++ ys) = mks (ms.take i) := by rw [List.take_append_of_le_length (by rw [mks_length]; omega), mks_take]
  have l1 : (mks (ms.take i)).length = i * 5 := by rw [mks_length]; simp; omega
  rw [e1, Nat.zero_add, Nat.zero_add, List.append_assoc (mks (ms.take i)) zs ys2, List.take_left' l1]
  have e2 : List.take ((i + 1) * 5) (mks (ms.take i) ++ m.cells ++ D) = mks (ms.take i) ++ m.cells := List.take_left' (by rw [List.length_append, l1]; simp [Mk.cells]; omega)
  rw [e2]
  exact ins_fin ms m i n hi hn E
theorem ins2 (ms : List Mk) (m : Mk) (i n : Nat) (hi : i < ms.length) (hn : n = ms.length + 1) (ys D D' : List Value) :
    LO.row 62 5 n (List.take (n * 5) (List.take (0 + i * 5) (List.take (0 + (i + 1) * 5) (mks ms ++ ys) ++ mks (ms.drop i) ++ D) ++ m.cells ++ List.drop (0 + i * 5 + m.cells.length) (List.take (0 + (i + 1) * 5) (mks ms ++ ys) ++ mks (ms.drop i) ++ D'))) = mrow (ms.take i ++ m :: ms.drop i) := by
  have e1 : List.take ((i + 1) * 5) (mks ms ++ ys) = mks (ms.take (i + 1)) := by rw [List.take_append_of_le_length (by rw [mks_length]; omega), mks_take]
  have l1 : (mks (ms.take (i + 1))).length = (i + 1) * 5 := by rw [mks_length]; simp; omega
  have e2 : List.take (i * 5) (mks (ms.take (i + 1)) ++ mks (ms.drop i) ++ D) = mks (ms.take i) := by
    rw [List.append_assoc, List.take_append_of_le_length (by rw [l1]; omega), mks_take, List.take_take, Nat.min_eq_left (by omega)]
  have e3 : List.drop (i * 5 + m.cells.length) (mks (ms.take (i + 1)) ++ mks (ms.drop i) ++ D') = mks (ms.drop i) ++ D' := by
    rw [List.append_assoc, List.drop_left' (by rw [l1]; simp [Mk.cells]; omega)]
  rw [Nat.zero_add, Nat.zero_add, e1, e2, e3, ← List.append_assoc]
  exact ins_fin ms m i n hi hn D'
theorem insert_mid (ms : List Mk) (hms : ms.length ≤ 1000000) (m : Mk) (i : Nat) (hi : i < ms.length) : Ctr Tryd.prog [] 83 [mrow ms, .cells [.v (.int .i64 m.t), .v (.string (B m.s)), .v (.int .u64 m.q), .v (.int .i64 m.st), .v (.string (B m.d))] 62] [.one (.c (.row 0)), vv (.int .i64 i), .one (.c (.sl 1 0 1 1))]
    (fun os v => os = [.gone, .cells [.v (.int .i64 m.t), .v (.string (B m.s)), .v (.int .u64 m.q), .v (.int .i64 m.st), .v (.string (B m.d))] 62, mrow (ms.take i ++ m :: ms.drop i)] ∧ v = .one (.c (.row 2))) := by
  refine Ctr.less ?_
  intro X0 hP0 hG0 N0 hN0
  refine CallVC.inline (f := 83) (by rw [hP0]; exact Tryd.func83) rfl Tryd.ntmps83 rfl (by simp) ?_
  intro X K hU hnt hbl hK
  have hP : X.P = Tryd.prog := by rw [hU.P, hP0]
  have hG := hG0.under hU
  have hT : isStrT X.P 59 = false ∧ elemSz X.P 59 = some (62, 5) ∧ X.P.underlying 59 = some (TypeDesc.slice 62) ∧ elemInf X.P 59 = some (62, 5, 56, (Value.agg #[(Value.int IntKind.i64 0), (Value.string { data := #[] }), (Value.int IntKind.u64 0), (Value.int IntKind.i64 0), (Value.string { data := #[] })])) ∧ isStrT X.P 3 = false ∧ calleeOk X.P 131 = false ∧ calleeOk X.P 132 = true := by rw [hP]; exact ⟨Ty.is59, Ty.el59, Tryd.underlying59, Ty.ei59, Ty.is3, Ty.cx131, Ty.co132⟩
  simp only [GA, ↓GB, List.filterMap_cons, eq_self, BEq.rfl, simprocAttr] at hbl ⊢
  refine SX.openRow (t := 0) (i := 0) rfl rfl (by omega) (fun cap ys hcap1 hcap2 hys => ?_)
  simp only [GA, ↓GB, List.filterMap_cons, eq_self, BEq.rfl, simprocAttr]
  have hw1 : IntKind.i64.wrap ((ms.length : Int) + 1) = ((ms.length + 1 : Nat) : Int) := by rw [wI64 (by omega) (by omega)]; rfl
  have hw2 : IntKind.i64.wrap ((i : Int) + 1) = ((i + 1 : Nat) : Int) := by rw [wI64 (by omega) (by omega)]; rfl
  have hw3 : IntKind.i64.wrap (((ms.length + 1 : Nat) : Int) - (i : Int)) = ((ms.length + 1 - i : Nat) : Int) := by rw [wI64 (by omega) (by omega)]; omega
  repeat' (first
    | (refine SX.closeRow (code := .ret) (t := 6) (j := 4) (sz := 5) (e := 62) (cap := cap2) rfl rfl (by simp only [List.length_append, List.length_take, List.length_drop, mks_length, hys, Mk.cells, List.length_cons, List.length_nil, hzs, hys2]; omega) (by omega) hcap4 ?_ <;> simp only [GA, ↓GB, List.filterMap_cons, eq_self, BEq.rfl, simprocAttr])
    | (refine SX.closeRow (code := .ret) (t := 6) (j := 2) (sz := 5) (e := 62) (cap := cap) rfl rfl (by simp only [List.length_append, List.length_take, List.length_drop, mks_length, hys, Mk.cells, List.length_cons, List.length_nil]; omega) (by omega) hcap2 ?_ <;> simp only [GA, ↓GB, List.filterMap_cons, eq_self, BEq.rfl, simprocAttr])
    | (rw [if_neg (show ¬ cap = i by omega)])
    | (rw [if_neg (show ¬ cap = i + 1 by omega)])
    | (rw [if_neg (show ¬ cap2 = i by omega)])
    | (rw [if_neg (show ¬ cap2 = i + 1 by omega)])
    | (refine SX.openRow (code := .seq (.region 10 _ _) _) (t := 9) (i := 3) rfl rfl (by omega) (fun cap2 ys2 hcap3 hcap4 hys2 => ?_) <;> simp only [GA, ↓GB, List.filterMap_cons, eq_self, BEq.rfl, simprocAttr])
    | (refine SX.seqK ?_; intro N hN)
    | ((first | (refine SX.ops ?_) | (refine SX.planT (id := 11) [.q [(0, [9]), (1, [1]), (2, [7]), (3, [47, 48]), (4, [46, 49]), (5, [0]), (6, [1]), (7, [51, 52])] none, .s 8] ?_ ?_ ?_; (focus first | (rw [hP]; kernel_rfl) | (rw [hU1P, hP]; kernel_rfl)); (focus kernel_rfl)) | (refine SX.planT (id := 15) [.q [(0, [0]), (1, [1]), (2, [7]), (3, [70, 71]), (4, [69, 72]), (5, [0]), (6, [1]), (7, [74, 75])] none, .s 8] ?_ ?_ ?_; (focus first | (rw [hP]; kernel_rfl) | (rw [hU1P, hP]; kernel_rfl)); (focus kernel_rfl))); simp only [GA, ↓GB, List.filterMap_cons, eq_self, BEq.rfl, simprocAttr, hnt, hT, hw1, hw2, hw3, Nat.sub_zero])
    | ((first | refine SX.skip ?_ | refine SX.exit ?_ | refine SX.label ?_); try simp only [GA, ↓GB, List.filterMap_cons, eq_self, BEq.rfl, simprocAttr])
    | (refine SX.cond rfl (fun hb => ?_) (fun hb => ?_) <;> ((first | cases hb | (simp only [decide_eq_true_eq, decide_eq_false_iff_not, beq_iff_eq, beq_eq_false_iff_ne, bne_iff_ne, Bool.and_eq_true, Bool.or_eq_true, Bool.not_eq_true', Bool.not_eq_false', Bool.and_eq_false_iff, Bool.or_eq_false_iff, Int.not_lt, Int.not_le] at hb) | skip) <;> (first | (exfalso; omega) | skip)))
    | (refine SX.ret ?_; try simp only [GA, ↓GB, List.filterMap_cons, eq_self, BEq.rfl, simprocAttr])
    | (refine hN _ ?_; clear hN N)
    | ((first | refine hK _ _ (FinI.ret3 ?_) | refine hK _ _ (FinI.nrm3 ?_)); simp only [GA, ↓GB, List.filterMap_cons, eq_self, BEq.rfl, simprocAttr, finP_s, hnt, hT, hw1, hw2, hw3, Nat.sub_zero]; refine Done.out ?_)
    | (clear hN N; first | (refine hN _ ?_; clear hN N) | (clear hN N; first | (refine hN _ ?_; clear hN N) | (clear hN N; first | (refine hN _ ?_; clear hN N) | (clear hN N; first | (refine hN _ ?_; clear hN N) | (clear hN N; first | (refine hN _ ?_; clear hN N) | (refine hN _ ?_; clear hN N))))))
    | (refine bif2.mk (fun hb => ?_) (fun hb => ?_) <;> (try simp only [hb, GA, ↓GB, List.filterMap_cons, eq_self, BEq.rfl, simprocAttr, hnt, hT, hw1, hw2, hw3, Nat.sub_zero]) <;> ((first | cases hb | (simp only [decide_eq_true_eq, decide_eq_false_iff_not, beq_iff_eq, beq_eq_false_iff_ne, bne_iff_ne, Bool.and_eq_true, Bool.or_eq_true, Bool.not_eq_true', Bool.not_eq_false', Bool.and_eq_false_iff, Bool.or_eq_false_iff, Int.not_lt, Int.not_le] at hb) | skip) <;> (first | (exfalso; omega) | skip)))
    | ((show VO X _ _ _ <;> refine VO.capSl (e := 62) rfl (by rw [hP]; kernel_rfl) ?_ <;> simp only [GA, ↓GB, List.filterMap_cons, eq_self, BEq.rfl, simprocAttr, hnt, hT]))
    | ((show VO X _ _ _ <;> refine VO.appendZeros (e := 62) (e1 := 62) (us := mks ms ++ ys) (k := ms.length + 1 - i) (kn := .i64) rfl rfl (by rw [hP]; exact Ty.ei59) (by rw [hP]; kernel_rfl) rfl (by rw [List.length_append, mks_length]; omega) (by omega) (by omega) (by omega) (by omega) (fun zs hzs => ?_) <;> simp only [GA, ↓GB, List.filterMap_cons, eq_self, BEq.rfl, simprocAttr, hnt, hT]))
    | ((show VO X _ _ _ <;> refine VO.copySl (e := 62) (ws := m.cells) (e2 := 62) (sz := 5) (vs := m.cells) (q := 1) rfl rfl (by rw [hP]; kernel_rfl) (by rw [hP]; kernel_rfl) rfl rfl (by show min _ _ = _; omega) rfl rfl (by simp only [List.length_append, List.length_take, List.length_drop, mks_length, hys, Mk.cells, List.length_cons, List.length_nil]; omega) (cells_one m) ?_ <;> simp only [GA, ↓GB, List.filterMap_cons, eq_self, BEq.rfl, simprocAttr, hnt, hT]))
    | ((show VO X _ _ _ <;> refine VO.copySl (e := 62) (ws := m.cells) (e2 := 62) (sz := 5) (vs := m.cells) (q := 1) rfl rfl (by rw [hP]; kernel_rfl) (by rw [hP]; kernel_rfl) rfl rfl (by show min _ _ = _; omega) rfl rfl (by simp only [List.length_append, List.length_take, List.length_drop, mks_length, hys, Mk.cells, List.length_cons, List.length_nil, hzs, hys2]; omega) (cells_one m) ?_ <;> simp only [GA, ↓GB, List.filterMap_cons, eq_self, BEq.rfl, simprocAttr, hnt, hT]))
    | ((show VO X _ _ _ <;> refine VO.copySl (e := 62) (ws := mks ms ++ ys) (e2 := 62) (sz := 5) (vs := mks (ms.drop i)) (q := ms.length - i) rfl rfl (by rw [hP]; kernel_rfl) (by rw [hP]; kernel_rfl) rfl rfl (by show min _ _ = _; omega) (src_eq ms ys i hi) (src_len ms i) (by simp only [List.length_append, List.length_take, List.length_drop, mks_length, hys, Mk.cells, List.length_cons, List.length_nil]; omega) (mks_one _) ?_ <;> simp only [GA, ↓GB, List.filterMap_cons, eq_self, BEq.rfl, simprocAttr, hnt, hT]))
    | ((show VO X _ _ _ <;> refine VO.copySl (e := 62) (ws := mks ms ++ ys) (e2 := 62) (sz := 5) (vs := mks (ms.drop i)) (q := ms.length - i) rfl rfl (by rw [hP]; kernel_rfl) (by rw [hP]; kernel_rfl) rfl rfl (by show min _ _ = _; omega) (src_eq ms ys i hi) (src_len ms i) (by simp only [List.length_append, List.length_take, List.length_drop, mks_length, hys, Mk.cells, List.length_cons, List.length_nil, hzs, hys2]; omega) (mks_one _) ?_ <;> simp only [GA, ↓GB, List.filterMap_cons, eq_self, BEq.rfl, simprocAttr, hnt, hT]))
    | ((show VO X _ _ _ <;> refine VO.overlaps (us := m.cells) (ws := mks ms ++ ys) (e1 := 62) (e2 := 62) rfl rfl rfl rfl (by decide) (by rw [List.length_append, mks_length]; omega) (overlaps_run hP) ?_ <;> simp only [GA, ↓GB, List.filterMap_cons, eq_self, BEq.rfl, simprocAttr, hnt, hT]))
    | (refine SX.block ?_)
    | (refine and_mk ?_ ?_; (focus first | decide | omega | rfl | assumption | (simp only [List.length_append, List.length_cons, List.length_nil, B_size]; omega) | (simp; done)))
    | (refine And.intro ?_ ?_))
  all_goals (try refine Done.mk ?_)
  · rw [ins1 ms m i _ hi (by omega)]
    (refine hN0 _ _ ⟨[0, 1, 5], _, _, ?_, ?_, ?_, ⟨rfl, rfl⟩⟩; (focus exact LeR.of rfl trivial (by simp only [GA, ↓GB, List.filterMap_cons, eq_self, BEq.rfl, simprocAttr, List.getD_cons_zero, List.getD_cons_succ, or_false, false_or, or_self, or_true, true_or, decide_true]) (by decide) rfl rfl rfl); rotate_left; (focus rfl))
    rfl
  · rw [ins2 ms m i _ hi (by omega)]
    (refine hN0 _ _ ⟨[0, 1, 3], _, _, ?_, ?_, ?_, ⟨rfl, rfl⟩⟩; (focus exact LeR.of rfl trivial (by simp only [GA, ↓GB, List.filterMap_cons, eq_self, BEq.rfl, simprocAttr, List.getD_cons_zero, List.getD_cons_succ, or_false, false_or, or_self, or_true, true_or, decide_true]) (by decide) rfl rfl rfl); rotate_left; (focus rfl))
    rfl
end Go.Proofs.YtbdacbcpniegiaaDoor
