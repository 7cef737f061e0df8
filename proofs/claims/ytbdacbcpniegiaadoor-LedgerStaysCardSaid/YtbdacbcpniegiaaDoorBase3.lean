/- Own work: a part of the symbolic executor and of the walks of the functions that the claim reaches. -/
import Derived.Test.YtbdacbcpniegiaaDoorBase2
import Derived.Shelf.Strings.SlTrimAscii
set_option linter.unusedVariables false
namespace NW
abbrev Bytes := List UInt8
def varint (n : Nat) : Bytes :=
  if h : n < 128 then [UInt8.ofNat n] else UInt8.ofNat (n % 128 + 128) :: varint (n / 128)
termination_by n
decreasing_by omega
def readAt : Nat → Bytes → Option (Nat × Nat)
  | _, [] => none
  | k, b :: t =>
    if k ≥ 10 then none
    else if k = 9 ∧ b.toNat > 1 then none
    else if b.toNat < 128 then some (b.toNat * 2 ^ (7 * k), k + 1)
    else (readAt (k + 1) t).map fun r => (b.toNat % 128 * 2 ^ (7 * k) + r.1, r.2)
def readVar (s : Bytes) : Option (Nat × Nat) := readAt 0 s
structure Fld where
  num : Nat
  kind : Nat
  n : Nat
  s : Bytes
deriving DecidableEq
def body (kind : Nat) (s : Bytes) : Option (Nat × Nat × Bytes) :=
  if kind = 0 then (readVar s).map fun r => (r.1, 0, s.drop r.2)
  else if kind = 1 then some (0, 8, s)
  else if kind = 2 then (readVar s).map fun r => (0, r.1, s.drop r.2)
  else if kind = 5 then some (0, 4, s)
  else none
def takeF (s : Bytes) : Option (Fld × Bytes) :=
  match readVar s with
  | none => none
  | some (tag, z) =>
    if tag < 8 ∨ 2 ^ 32 ≤ tag then none
    else match body (tag % 8) (s.drop z) with
      | none => none
      | some (n, size, r) => if size ≤ r.length then some (⟨tag / 8, tag % 8, n, r.take size⟩, r.drop size) else none
theorem readAt_bd (s : Bytes) : ∀ k r, readAt k s = some r → k < r.2 ∧ r.2 ≤ k + s.length ∧ r.2 ≤ 10 := by
  induction s with
  | nil => intro k r h; simp [readAt] at h
  | cons b t ih =>
    intro k r h
    simp only [readAt] at h
    split at h
    · simp at h
    · split at h
      · simp at h
      · split at h
        · simp at h; subst h; simp; omega
        · cases hr : readAt (k + 1) t with
          | none => simp [hr] at h
          | some q =>
            simp [hr] at h; subst h
            have := ih _ _ hr
            simp; omega
theorem readVar_bd {s : Bytes} {r} (h : readVar s = some r) : 1 ≤ r.2 ∧ r.2 ≤ s.length ∧ r.2 ≤ 10 := by
  have := readAt_bd s 0 r h
  omega
theorem readAt_lt (s : Bytes) : ∀ k r, k ≤ 10 → readAt k s = some r → r.1 + 2 ^ (7 * k) ≤ 2 ^ 64 + 0 ∨ r.1 < 2 ^ 64 ∧ 2 ^ (7 * k) ∣ r.1 := by
  induction s with
  | nil => intro k r _ h; simp [readAt] at h
  | cons b t ih =>
    intro k r hk h
    simp only [readAt] at h
    split at h
    · simp at h
    · rename_i h10
      split at h
      · simp at h
      · rename_i h9
        have hb := b.toNat_lt
        split at h
        · rename_i hlt
          simp at h; subst h
          right
          refine ⟨?_, Nat.dvd_mul_left _ _⟩
          simp only
          by_cases e : k = 9
          · subst e
            have : b.toNat ≤ 1 := by omega
            calc b.toNat * 2 ^ 63 ≤ 1 * 2 ^ 63 := Nat.mul_le_mul_right _ this
              _ < 2 ^ 64 := by decide
          · have h1 : 7 * k ≤ 56 := by omega
            have h2 : 2 ^ (7 * k) ≤ 2 ^ 56 := Nat.pow_le_pow_right (by decide) h1
            calc b.toNat * 2 ^ (7 * k) ≤ 128 * 2 ^ 56 := Nat.mul_le_mul (by omega) h2
              _ < 2 ^ 64 := by decide
        · cases hr : readAt (k + 1) t with
          | none => simp [hr] at h
          | some q =>
            simp [hr] at h; subst h
            have hk9 : k ≠ 9 := by
              intro e; apply h9; subst e; omega
            have h8 : k ≤ 8 := by omega
            have hpow : 2 ^ (7 * (k + 1)) = 128 * 2 ^ (7 * k) := by
              rw [show 7 * (k + 1) = 7 * k + 7 by omega, Nat.pow_add]; omega
            have := ih _ _ (by omega) hr
            rcases this with this | ⟨h1, h2⟩
            · left
              simp only
              rw [hpow] at this
              have h3 : b.toNat % 128 * 2 ^ (7 * k) + 2 ^ (7 * k) ≤ 128 * 2 ^ (7 * k) := by
                rw [← Nat.succ_mul]; exact Nat.mul_le_mul_right _ (by omega)
              omega
            · left
              simp only
              rw [hpow] at h2
              obtain ⟨c, hc⟩ := h2
              have h3 : b.toNat % 128 * 2 ^ (7 * k) + 2 ^ (7 * k) ≤ 128 * 2 ^ (7 * k) := by
                rw [← Nat.succ_mul]; exact Nat.mul_le_mul_right _ (by omega)
              have h64 : ∃ e, 2 ^ 64 = 2 ^ (7 * (k + 1)) * e := ⟨2 ^ (64 - 7 * (k + 1)), by rw [← Nat.pow_add]; congr 1; omega⟩
              obtain ⟨e, he⟩ := h64
              rw [hpow] at he
              rw [he] at h1
              have hce : c < e := by
                rw [hc] at h1
                exact Nat.lt_of_mul_lt_mul_left h1
              have h5 : 128 * 2 ^ (7 * k) * (c + 1) ≤ 128 * 2 ^ (7 * k) * e := Nat.mul_le_mul_left _ (by omega)
              rw [Nat.mul_add] at h5
              rw [hc, he]
              omega
theorem readVar_lt {s : Bytes} {r} (h : readVar s = some r) : r.1 < 2 ^ 64 := by
  rcases readAt_lt s 0 r (by omega) h with h | h
  · simp at h; omega
  · exact h.1
theorem readAt_append (p q : Bytes) : ∀ k r, readAt k p = some r → readAt k (p ++ q) = some r := by
  induction p with
  | nil => intro k r h; simp [readAt] at h
  | cons b t ih =>
    intro k r h
    simp only [readAt, List.cons_append] at h ⊢
    split
    · rename_i h1; rw [if_pos h1] at h; simp at h
    · rename_i h1; rw [if_neg h1] at h
      split
      · rename_i h2; rw [if_pos h2] at h; simp at h
      · rename_i h2; rw [if_neg h2] at h
        split
        · rename_i h3; rw [if_pos h3] at h; exact h
        · rename_i h3; rw [if_neg h3] at h
          cases hr : readAt (k + 1) t with
          | none => simp [hr] at h
          | some x => rw [hr] at h; rw [ih _ _ hr]; exact h
theorem readVar_append {p q : Bytes} {r} (h : readVar p = some r) : readVar (p ++ q) = some r := readAt_append p q 0 r h
theorem body_append {k : Nat} {p q : Bytes} {n z r} (h : body k p = some (n, z, r)) : body k (p ++ q) = some (n, z, r ++ q) := by
  simp only [body] at h ⊢
  split at h
  · rename_i h0; rw [if_pos h0]
    cases hr : readVar p with
    | none => simp [hr] at h
    | some x =>
      rw [readVar_append hr]
      simp [hr] at h ⊢
      obtain ⟨rfl, rfl, rfl⟩ := h
      have := readVar_bd hr
      exact ⟨rfl, rfl, by rw [List.drop_append_of_le_length (by omega)]⟩
  · rename_i h0; rw [if_neg h0]
    split at h
    · rename_i h1; rw [if_pos h1]; simp at h ⊢; obtain ⟨rfl, rfl, rfl⟩ := h; exact ⟨rfl, rfl, rfl⟩
    · rename_i h1; rw [if_neg h1]
      split at h
      · rename_i h2; rw [if_pos h2]
        cases hr : readVar p with
        | none => simp [hr] at h
        | some x =>
          rw [readVar_append hr]
          simp [hr] at h ⊢
          obtain ⟨rfl, rfl, rfl⟩ := h
          have := readVar_bd hr
          exact ⟨rfl, rfl, by rw [List.drop_append_of_le_length (by omega)]⟩
      · rename_i h2; rw [if_neg h2]
        split at h
        · rename_i h3; rw [if_pos h3]; simp at h ⊢; obtain ⟨rfl, rfl, rfl⟩ := h; exact ⟨rfl, rfl, rfl⟩
        · simp at h
theorem body_len {k : Nat} {p : Bytes} {n z r} (h : body k p = some (n, z, r)) : r.length ≤ p.length := by
  simp only [body] at h
  split at h
  · cases hr : readVar p with
    | none => simp [hr] at h
    | some x => simp [hr] at h; obtain ⟨_, _, rfl⟩ := h; simp
  · split at h
    · simp at h; obtain ⟨_, _, rfl⟩ := h; simp
    · split at h
      · cases hr : readVar p with
        | none => simp [hr] at h
        | some x => simp [hr] at h; obtain ⟨_, _, rfl⟩ := h; simp
      · split at h
        · simp at h; obtain ⟨_, _, rfl⟩ := h; simp
        · simp at h
theorem takeF_append {p q : Bytes} {f r} (h : takeF p = some (f, r)) : takeF (p ++ q) = some (f, r ++ q) := by
  simp only [takeF] at h ⊢
  cases hr : readVar p with
  | none => simp [hr] at h
  | some x =>
    obtain ⟨tag, z⟩ := x
    rw [readVar_append hr]
    simp only [hr] at h ⊢
    split at h
    · simp at h
    · rename_i ht
      rw [if_neg ht]
      have hz := (readVar_bd hr).2.1
      rw [List.drop_append_of_le_length (by simpa using hz)]
      cases hb : body (tag % 8) (p.drop z) with
      | none => simp [hb] at h
      | some y =>
        obtain ⟨n, size, s1⟩ := y
        rw [body_append hb]
        simp only [hb] at h ⊢
        split at h
        · rename_i hs
          rw [if_pos (by simp; omega)]
          simp at h ⊢
          obtain ⟨rfl, rfl⟩ := h
          rw [List.take_append_of_le_length hs, List.drop_append_of_le_length hs]
          exact ⟨rfl, rfl⟩
        · simp at h
theorem takeF_len {p : Bytes} {f r} (h : takeF p = some (f, r)) : r.length < p.length := by
  simp only [takeF] at h
  cases hr : readVar p with
  | none => simp [hr] at h
  | some x =>
    obtain ⟨tag, z⟩ := x
    simp only [hr] at h
    have hz := readVar_bd hr
    simp only at hz
    split at h
    · simp at h
    · cases hb : body (tag % 8) (p.drop z) with
      | none => simp [hb] at h
      | some y =>
        obtain ⟨n, size, s1⟩ := y
        simp only [hb] at h
        have := body_len hb
        simp only [List.length_drop] at this
        split at h
        · simp at h; obtain ⟨_, rfl⟩ := h; simp; omega
        · simp at h
def parse (s : Bytes) : Option (List Fld) :=
  if s = [] then some []
  else match h : takeF s with
    | none => none
    | some (f, r) => (parse r).map (f :: ·)
termination_by s.length
decreasing_by exact takeF_len h
theorem parse_nil : parse [] = some [] := by rw [parse]; simp
theorem parse_none {s : Bytes} (hs : s ≠ []) (h : takeF s = none) : parse s = none := by
  rw [parse, if_neg hs]; split <;> simp_all
theorem parse_some {s : Bytes} {f r} (h : takeF s = some (f, r)) : parse s = (parse r).map (f :: ·) := by
  have hs : s ≠ [] := by intro e; have := takeF_len h; simp [e] at this
  rw [parse, if_neg hs]; split <;> simp_all
theorem parse_append : ∀ (n : Nat) (p q : Bytes) (gs : List Fld), p.length ≤ n → parse p = some gs → parse (p ++ q) = (parse q).map (gs ++ ·) := by
  intro n
  induction n with
  | zero =>
    intro p q gs hp h
    have : p = [] := by simpa using hp
    subst this
    rw [parse_nil] at h
    simp at h; subst h; simp
  | succ n ih =>
    intro p q gs hp h
    by_cases e : p = []
    · subst e
      rw [parse_nil] at h
      simp at h; subst h; simp
    · cases ht : takeF p with
      | none => rw [parse_none e ht] at h; simp at h
      | some x =>
        obtain ⟨f, r⟩ := x
        rw [parse_some ht] at h
        cases hr : parse r with
        | none => simp [hr] at h
        | some g =>
          simp [hr] at h; subst h
          rw [parse_some (takeF_append ht), ih r q g (by have := takeF_len ht; omega) hr]
          cases parse q <;> simp
theorem parse_app {p q : Bytes} {gs : List Fld} (h : parse p = some gs) : parse (p ++ q) = (parse q).map (gs ++ ·) := parse_append _ p q gs (Nat.le_refl _) h
theorem varint_lt {n : Nat} (h : n < 128) : varint n = [UInt8.ofNat n] := by rw [varint]; simp [h]
theorem varint_ge {n : Nat} (h : ¬ n < 128) : varint n = UInt8.ofNat (n % 128 + 128) :: varint (n / 128) := by rw [varint]; simp [h]
theorem readAt_varint (t : Bytes) : ∀ (d n k : Nat), n < 2 ^ d → k < 10 → d + 7 * k = 64 → readAt k (varint n ++ t) = some (n * 2 ^ (7 * k), k + (varint n).length) := by
  intro d
  induction d using Nat.strongRecOn with
  | _ d ih =>
    intro n k hn hk hd
    by_cases h : n < 128
    · rw [varint_lt h]
      simp only [List.cons_append, List.nil_append, readAt, List.length_cons, List.length_nil]
      have hb : (UInt8.ofNat n).toNat = n := by simp [UInt8.toNat_ofNat']; omega
      rw [if_neg (by omega), if_neg (by
        rw [hb]; intro ⟨e, h1⟩; subst e
        have : d = 1 := by omega
        subst this; omega), hb, if_pos h]
    · rw [varint_ge h]
      simp only [List.cons_append, readAt, List.length_cons]
      have hb : (UInt8.ofNat (n % 128 + 128)).toNat = n % 128 + 128 := by simp [UInt8.toNat_ofNat']; omega
      have hd7 : 8 ≤ d := by
        rcases Nat.lt_or_ge d 8 with h8 | h8
        · have : 2 ^ d ≤ 2 ^ 7 := Nat.pow_le_pow_right (by decide) (by omega)
          omega
        · exact h8
      have hn' : n / 128 < 2 ^ (d - 7) := by
        apply Nat.div_lt_of_lt_mul
        calc n < 2 ^ d := hn
          _ = 128 * 2 ^ (d - 7) := by rw [show (128 : Nat) = 2 ^ 7 by decide, ← Nat.pow_add]; congr 1; omega
      rw [if_neg (by omega), if_neg (by omega), hb, if_neg (by omega), ih (d - 7) (by omega) (n / 128) (k + 1) hn' (by omega) (by omega)]
      simp only [Option.map_some]
      have hpow : 2 ^ (7 * (k + 1)) = 128 * 2 ^ (7 * k) := by
        rw [show 7 * (k + 1) = 7 * k + 7 by omega, Nat.pow_add]; omega
      rw [hpow]
      have e1 : (n % 128 + 128) % 128 = n % 128 := by omega
      rw [e1, ← Nat.mul_assoc, ← Nat.add_mul]
      have e2 : n % 128 + n / 128 * 128 = n := by omega
      rw [e2]
      congr 2
      omega
theorem readVar_varint {n : Nat} (t : Bytes) (h : n < 2 ^ 64) : readVar (varint n ++ t) = some (n, (varint n).length) := by
  have := readAt_varint t 64 n 0 h (by omega) (by omega)
  simpa [readVar] using this
theorem varint_length : ∀ (d n : Nat), n < 2 ^ (7 * d) → 1 ≤ d → (varint n).length ≤ d := by
  intro d
  induction d with
  | zero => intro n _ h; omega
  | succ d ih =>
    intro n hn _
    by_cases h : n < 128
    · rw [varint_lt h]; simp
    · rw [varint_ge h]
      have hd : 1 ≤ d := by
        rcases Nat.eq_zero_or_pos d with e | e
        · subst e; simp at hn; omega
        · exact e
      have : n / 128 < 2 ^ (7 * d) := by
        apply Nat.div_lt_of_lt_mul
        calc n < 2 ^ (7 * (d + 1)) := hn
          _ = 128 * 2 ^ (7 * d) := by rw [show (128 : Nat) = 2 ^ 7 by decide, ← Nat.pow_add]; congr 1; omega
      have := ih _ this hd
      simp; omega
theorem varint_len10 {n : Nat} (h : n < 2 ^ 64) : (varint n).length ≤ 10 :=
  varint_length 10 n (Nat.lt_of_lt_of_le h (by decide)) (by decide)
theorem varint_ne (n : Nat) : varint n ≠ [] := by
  by_cases h : n < 128
  · rw [varint_lt h]; simp
  · rw [varint_ge h]; simp
def Fld.Ok (f : Fld) : Prop := 1 ≤ f.num ∧ f.num < 2 ^ 29 ∧ ((f.kind = 0 ∧ f.s = [] ∧ f.n < 2 ^ 64) ∨ (f.kind = 1 ∧ f.s.length = 8 ∧ f.n = 0) ∨ (f.kind = 2 ∧ f.s.length < 2 ^ 64 ∧ f.n = 0) ∨ (f.kind = 5 ∧ f.s.length = 4 ∧ f.n = 0))
def Fld.enc (f : Fld) : Bytes :=
  varint (f.num * 8 + f.kind) ++ (if f.kind = 0 then varint f.n else if f.kind = 2 then varint f.s.length else []) ++ f.s
theorem takeF_enc {f : Fld} (h : f.Ok) (t : Bytes) : takeF (f.enc ++ t) = some (f, t) := by
  obtain ⟨num, kind, n, s⟩ := f
  obtain ⟨h1, h2, h⟩ := h
  simp only at h1 h2 h
  simp only [Fld.enc, takeF]
  have hk : kind < 8 := by omega
  have htag : num * 8 + kind < 2 ^ 64 := by omega
  rw [show (varint (num * 8 + kind) ++ (if kind = 0 then varint n else if kind = 2 then varint s.length else []) ++ s ++ t) = varint (num * 8 + kind) ++ ((if kind = 0 then varint n else if kind = 2 then varint s.length else []) ++ (s ++ t)) by simp]
  rw [readVar_varint _ htag]
  simp only
  rw [if_neg (by omega), List.drop_left]
  have e1 : (num * 8 + kind) % 8 = kind := by omega
  have e2 : (num * 8 + kind) / 8 = num := by omega
  rw [e1, e2]
  rcases h with ⟨rfl, rfl, h⟩ | ⟨rfl, h, rfl⟩ | ⟨rfl, h, rfl⟩ | ⟨rfl, h, rfl⟩
  · simp only [body, if_true, List.nil_append]
    rw [readVar_varint _ h]
    simp
  · simp [body, h]
  · simp only [body]
    simp only [show ¬ ((2 : Nat) = 0) by decide, show ¬ ((2 : Nat) = 1) by decide, if_false, if_true]
    rw [readVar_varint _ h]
    simp
  · simp [body, h]
theorem parse_enc {f : Fld} (h : f.Ok) (t : Bytes) : parse (f.enc ++ t) = (parse t).map (f :: ·) := parse_some (takeF_enc h t)
def encs (l : List Fld) : Bytes := l.flatMap Fld.enc
theorem parse_encs (l : List Fld) (h : ∀ f ∈ l, f.Ok) (t : Bytes) : parse (encs l ++ t) = (parse t).map (l ++ ·) := by
  induction l with
  | nil => simp [encs]
  | cons f l ih =>
    have e : encs (f :: l) ++ t = f.enc ++ (encs l ++ t) := by simp [encs]
    rw [e, parse_enc (h f (by simp)), ih (fun g hg => h g (by simp [hg]))]
    cases parse t <;> simp
theorem parse_encs' (l : List Fld) (h : ∀ f ∈ l, f.Ok) : parse (encs l) = some l := by
  have := parse_encs l h []
  simpa [parse_nil] using this
theorem parse_prefix {l : List Fld} (h : ∀ f ∈ l, f.Ok) {p q : Bytes} (e : encs l = p ++ q) {gs} (hp : parse p = some gs) : ∃ hs, l = gs ++ hs := by
  have h1 := parse_encs' l h
  rw [e, parse_app hp] at h1
  cases hq : parse q with
  | none => simp [hq] at h1
  | some x => simp [hq] at h1; exact ⟨x, h1.symm⟩
end NW
namespace Go.Proofs.YtbdacbcpniegiaaDoor
open Go Go.RowKit Go.Proofs Go.Sx
set_option maxHeartbeats 1000000
set_option linter.unusedSimpArgs false
set_option linter.unusedVariables false
set_option maxRecDepth 10000 in
theorem or128 {x : Int} (h0 : 0 ≤ x) (h1 : x < 256) : bits .or .u8 x 128 = x % 128 + 128 := by
  have := (by decide : ∀ x : Fin 256, bits .or .u8 (x.val : Int) 128 = (x.val : Int) % 128 + 128) ⟨x.toNat, by omega⟩
  simp only [Int.toNat_of_nonneg h0] at this
  exact this
theorem varint_any (n : Nat) (hn : n < 18446744073709551616) (w : World) :
    Calls Tryd.prog 128 #[.int .u64 n] w fun e w' => e = .returned (.string (B (NW.varint n))) ∧ Below w.heap.size w w' := by
  have hlen := NW.varint_len10 (n := n) (by omega)
  refine calls_pureK (args := [.int .u64 n]) w Tryd.func128 rfl Tryd.ntmps128 (by simp) ?_
  intro X K hX hK
  have hnt : X.nt = 21 := by rw [hX]
  have hwi : X.wi = w := by rw [hX]
  have hP : X.P = Tryd.prog := by rw [hX]
  have hown : X.own = [] := by rw [hX]
  have hbl : X.base.length = 0 := by rw [hX]; rfl
  clear hX
  have hT : elemInf X.P 58 = some (5, 1, 1, (Value.int IntKind.u8 0)) ∧ X.P.underlying 22 = some (TypeDesc.int IntKind.u64) ∧ X.P.underlying 5 = some (TypeDesc.int IntKind.u8) ∧ isBytesT X.P 22 = false ∧ isStrT X.P 5 = false ∧ elemSz X.P 58 = some (5, 1) ∧ zeroCells X.P 5 = some [(Value.int IntKind.u8 0)] ∧ isStrT X.P 58 = false ∧ X.P.underlying 58 = some (TypeDesc.slice 5) ∧ X.P.underlying 9 = some TypeDesc.string ∧ isBytesT X.P 58 = true ∧ isStrT X.P 9 = true := by rw [hP]; exact ⟨Ty.ei58, Tryd.underlying22, Tryd.underlying5, Ty.ib22, Ty.is5, Ty.el58, Ty.ze5, Ty.is58, Tryd.underlying58, Tryd.underlying9, Ty.ib58, Ty.is9⟩
  refine SX.seqK ?_
  intro N hN
  refine SX.ops ?_
  simp only [WS, JA, JB, wI64, wU64, Int.reduceAdd, Int.reduceSub, Int.reduceMul, Int.reduceLE, Int.reduceLT, Int.reduceNeg, Int.reduceToNat, Int.cast_ofNat_Int, sx0, sx1, sx2, sx3, sx4, sx5, sx6, sx7, sy0, sy1, List.filterMap_cons, JC, JD, WT, JE, JF, JG, JH, JI, JJ, JK, WU, JL, JM, JN, JO, WV, JP, JQ, WW, JR, JS, JT, JU, JV, JW, JX, JY, JZ, WA, WB, WC, WD, WE, WF, WG, WH, WI, WJ, WK, WL, WM, WN, true_and, and_true, reduceCtorEq, ↓reduceIte, ↓bifT, ↓bifF, ↓gifT, ↓gifF, eq_self, WO, WP, WQ, Nat.reduceLT, Nat.reduceLeDiff, Nat.reduceAdd, Nat.reduceSub, Nat.reduceMul, Nat.reduceMod, WR, Nat.reduceBEq, Int.reduceBEq, Int.reduceBNe, BEq.rfl, hnt, hT]
  refine hN _ ?_
  clear hN N
  refine SX.seqK ?_
  intro N hN
  refine SX.ops ?_
  simp only [WS, JA, JB, wI64, wU64, Int.reduceAdd, Int.reduceSub, Int.reduceMul, Int.reduceLE, Int.reduceLT, Int.reduceNeg, Int.reduceToNat, Int.cast_ofNat_Int, sx0, sx1, sx2, sx3, sx4, sx5, sx6, sx7, sy0, sy1, List.filterMap_cons, JC, JD, WT, JE, JF, JG, JH, JI, JJ, JK, WU, JL, JM, JN, JO, WV, JP, JQ, WW, JR, JS, JT, JU, JV, JW, JX, JY, JZ, WA, WB, WC, WD, WE, WF, WG, WH, WI, WJ, WK, WL, WM, WN, true_and, and_true, reduceCtorEq, ↓reduceIte, ↓bifT, ↓bifF, ↓gifT, ↓gifF, eq_self, WO, WP, WQ, Nat.reduceLT, Nat.reduceLeDiff, Nat.reduceAdd, Nat.reduceSub, Nat.reduceMul, Nat.reduceMod, WR, Nat.reduceBEq, Int.reduceBEq, Int.reduceBNe, BEq.rfl, hnt, hT]
  refine hN _ ?_
  clear hN N
  refine SX.seqK ?_
  intro N hN
  refine SX.block (SX.loop (ι := { p : Nat × List UInt8 // p.2 ++ NW.varint p.1 = NW.varint n ∧ p.1 < 18446744073709551616 }) (fun i => ⟨[(0, vv (.int .u64 i.1.1)), (3, .one (.c (.row 0)))], [.row 5 1 i.1.2.length (bcells i.1.2)]⟩) (fun i => i.1.1) ⟨(n, []), by simp, hn⟩ ⟨[0], (LeR.of (by rw [hbl]; decide) (by simp only [WS, JA, JB, wI64, wU64, Int.reduceAdd, Int.reduceSub, Int.reduceMul, Int.reduceLE, Int.reduceLT, Int.reduceNeg, Int.reduceToNat, Int.cast_ofNat_Int, sx0, sx1, sx2, sx3, sx4, sx5, sx6, sx7, sy0, sy1, List.filterMap_cons, JC, JD, WT, JE, JF, JG, JH, JI, JJ, JK, WU, JL, JM, JN, JO, WV, JP, JQ, WW, JR, JS, JT, JU, JV, JW, JX, JY, JZ, WA, WB, WC, WD, WE, WF, WG, WH, WI, WJ, WK, WL, WM, WN, true_and, and_true, reduceCtorEq, ↓reduceIte, ↓bifT, ↓bifF, ↓gifT, ↓gifF, eq_self, WO, WP, WQ, Nat.reduceLT, Nat.reduceLeDiff, Nat.reduceAdd, Nat.reduceSub, Nat.reduceMul, Nat.reduceMod, WR, Nat.reduceBEq, Int.reduceBEq, Int.reduceBNe, BEq.rfl, List.getD_cons_zero, List.getD_cons_succ, or_false, false_or, or_self, or_true, true_or, decide_true]; try (rfl)) (by simp only [WS, JA, JB, wI64, wU64, Int.reduceAdd, Int.reduceSub, Int.reduceMul, Int.reduceLE, Int.reduceLT, Int.reduceNeg, Int.reduceToNat, Int.cast_ofNat_Int, sx0, sx1, sx2, sx3, sx4, sx5, sx6, sx7, sy0, sy1, List.filterMap_cons, JC, JD, WT, JE, JF, JG, JH, JI, JJ, JK, WU, JL, JM, JN, JO, WV, JP, JQ, WW, JR, JS, JT, JU, JV, JW, JX, JY, JZ, WA, WB, WC, WD, WE, WF, WG, WH, WI, WJ, WK, WL, WM, WN, true_and, and_true, reduceCtorEq, ↓reduceIte, ↓bifT, ↓bifF, ↓gifT, ↓gifF, eq_self, WO, WP, WQ, Nat.reduceLT, Nat.reduceLeDiff, Nat.reduceAdd, Nat.reduceSub, Nat.reduceMul, Nat.reduceMod, WR, Nat.reduceBEq, Int.reduceBEq, Int.reduceBNe, BEq.rfl, List.getD_cons_zero, List.getD_cons_succ, or_false, false_or, or_self, or_true, true_or, decide_true]; try (rfl)) (by decide) (by simp only [WS, JA, JB, wI64, wU64, Int.reduceAdd, Int.reduceSub, Int.reduceMul, Int.reduceLE, Int.reduceLT, Int.reduceNeg, Int.reduceToNat, Int.cast_ofNat_Int, sx0, sx1, sx2, sx3, sx4, sx5, sx6, sx7, sy0, sy1, List.filterMap_cons, JC, JD, WT, JE, JF, JG, JH, JI, JJ, JK, WU, JL, JM, JN, JO, WV, JP, JQ, WW, JR, JS, JT, JU, JV, JW, JX, JY, JZ, WA, WB, WC, WD, WE, WF, WG, WH, WI, WJ, WK, WL, WM, WN, true_and, and_true, reduceCtorEq, ↓reduceIte, ↓bifT, ↓bifF, ↓gifT, ↓gifF, eq_self, WO, WP, WQ, Nat.reduceLT, Nat.reduceLeDiff, Nat.reduceAdd, Nat.reduceSub, Nat.reduceMul, Nat.reduceMod, WR, Nat.reduceBEq, Int.reduceBEq, Int.reduceBNe, BEq.rfl, List.getD_cons_zero, List.getD_cons_succ, or_false, false_or, or_self, or_true, true_or, decide_true]) (by simp only [WS, JA, JB, wI64, wU64, Int.reduceAdd, Int.reduceSub, Int.reduceMul, Int.reduceLE, Int.reduceLT, Int.reduceNeg, Int.reduceToNat, Int.cast_ofNat_Int, sx0, sx1, sx2, sx3, sx4, sx5, sx6, sx7, sy0, sy1, List.filterMap_cons, JC, JD, WT, JE, JF, JG, JH, JI, JJ, JK, WU, JL, JM, JN, JO, WV, JP, JQ, WW, JR, JS, JT, JU, JV, JW, JX, JY, JZ, WA, WB, WC, WD, WE, WF, WG, WH, WI, WJ, WK, WL, WM, WN, true_and, and_true, reduceCtorEq, ↓reduceIte, ↓bifT, ↓bifF, ↓gifT, ↓gifF, eq_self, WO, WP, WQ, Nat.reduceLT, Nat.reduceLeDiff, Nat.reduceAdd, Nat.reduceSub, Nat.reduceMul, Nat.reduceMod, WR, Nat.reduceBEq, Int.reduceBEq, Int.reduceBNe, BEq.rfl, List.getD_cons_zero, List.getD_cons_succ, or_false, false_or, or_self, or_true, true_or, decide_true]) (by simp only [WS, JA, JB, wI64, wU64, Int.reduceAdd, Int.reduceSub, Int.reduceMul, Int.reduceLE, Int.reduceLT, Int.reduceNeg, Int.reduceToNat, Int.cast_ofNat_Int, sx0, sx1, sx2, sx3, sx4, sx5, sx6, sx7, sy0, sy1, List.filterMap_cons, JC, JD, WT, JE, JF, JG, JH, JI, JJ, JK, WU, JL, JM, JN, JO, WV, JP, JQ, WW, JR, JS, JT, JU, JV, JW, JX, JY, JZ, WA, WB, WC, WD, WE, WF, WG, WH, WI, WJ, WK, WL, WM, WN, true_and, and_true, reduceCtorEq, ↓reduceIte, ↓bifT, ↓bifF, ↓gifT, ↓gifF, eq_self, WO, WP, WQ, Nat.reduceLT, Nat.reduceLeDiff, Nat.reduceAdd, Nat.reduceSub, Nat.reduceMul, Nat.reduceMod, WR, Nat.reduceBEq, Int.reduceBEq, Int.reduceBNe, BEq.rfl, List.getD_cons_zero, List.getD_cons_succ, or_false, false_or, or_self, or_true, true_or, decide_true]))⟩ ?_)
  rintro ⟨⟨m, l⟩, hml, hm⟩
  simp only at hml hm ⊢
  have hl10 : l.length ≤ 10 := by have := congrArg List.length hml; simp at this; omega
  refine SX.seqK ?_; intro N2 hN2
  refine SX.seqK ?_; intro N3 hN3
  refine SX.ops ?_
  simp only [WS, JA, JB, wI64, wU64, Int.reduceAdd, Int.reduceSub, Int.reduceMul, Int.reduceLE, Int.reduceLT, Int.reduceNeg, Int.reduceToNat, Int.cast_ofNat_Int, sx0, sx1, sx2, sx3, sx4, sx5, sx6, sx7, sy0, sy1, List.filterMap_cons, JC, JD, WT, JE, JF, JG, JH, JI, JJ, JK, WU, JL, JM, JN, JO, WV, JP, JQ, WW, JR, JS, JT, JU, JV, JW, JX, JY, JZ, WA, WB, WC, WD, WE, WF, WG, WH, WI, WJ, WK, WL, WM, WN, true_and, and_true, reduceCtorEq, ↓reduceIte, ↓bifT, ↓bifF, ↓gifT, ↓gifF, eq_self, WO, WP, WQ, Nat.reduceLT, Nat.reduceLeDiff, Nat.reduceAdd, Nat.reduceSub, Nat.reduceMul, Nat.reduceMod, WR, Nat.reduceBEq, Int.reduceBEq, Int.reduceBNe, BEq.rfl, hnt, hT]
  refine hN3 _ ?_
  clear hN3 N3
  refine SX.cond (b := decide ((128 : Int) ≤ m)) rfl (fun hb => ?_) (fun hb => ?_)
  · refine SX.skip (hN2 _ ?_)
    clear hN2 N2
    have hb' : 128 ≤ m := by have := of_decide_eq_true hb; omega
    refine SX.seqK ?_; intro N4 hN4
    refine SX.block ?_
    refine SX.ops ?_
    simp only [WS, JA, JB, wI64, wU64, Int.reduceAdd, Int.reduceSub, Int.reduceMul, Int.reduceLE, Int.reduceLT, Int.reduceNeg, Int.reduceToNat, Int.cast_ofNat_Int, sx0, sx1, sx2, sx3, sx4, sx5, sx6, sx7, sy0, sy1, List.filterMap_cons, JC, JD, WT, JE, JF, JG, JH, JI, JJ, JK, WU, JL, JM, JN, JO, WV, JP, JQ, WW, JR, JS, JT, JU, JV, JW, JX, JY, JZ, WA, WB, WC, WD, WE, WF, WG, WH, WI, WJ, WK, WL, WM, WN, true_and, and_true, reduceCtorEq, ↓reduceIte, ↓bifT, ↓bifF, ↓gifT, ↓gifF, eq_self, WO, WP, WQ, Nat.reduceLT, Nat.reduceLeDiff, Nat.reduceAdd, Nat.reduceSub, Nat.reduceMul, Nat.reduceMod, WR, Nat.reduceBEq, Int.reduceBEq, Int.reduceBNe, BEq.rfl, hnt, hT]
    have e1 : IntKind.u8.wrap (m : Int) = ((m % 256 : Nat) : Int) := by rw [IntKind.wrap_u8]; omega
    rw [e1, or128 (by omega) (by omega)]
    first | refine ⟨by omega, hN4 _ ?_⟩ | refine hN4 _ ?_
    clear hN4 N4
    refine SX.ops ?_
    simp only [WS, JA, JB, wI64, wU64, Int.reduceAdd, Int.reduceSub, Int.reduceMul, Int.reduceLE, Int.reduceLT, Int.reduceNeg, Int.reduceToNat, Int.cast_ofNat_Int, sx0, sx1, sx2, sx3, sx4, sx5, sx6, sx7, sy0, sy1, List.filterMap_cons, JC, JD, WT, JE, JF, JG, JH, JI, JJ, JK, WU, JL, JM, JN, JO, WV, JP, JQ, WW, JR, JS, JT, JU, JV, JW, JX, JY, JZ, WA, WB, WC, WD, WE, WF, WG, WH, WI, WJ, WK, WL, WM, WN, true_and, and_true, reduceCtorEq, ↓reduceIte, ↓bifT, ↓bifF, ↓gifT, ↓gifF, eq_self, WO, WP, WQ, Nat.reduceLT, Nat.reduceLeDiff, Nat.reduceAdd, Nat.reduceSub, Nat.reduceMul, Nat.reduceMod, WR, Nat.reduceBEq, Int.reduceBEq, Int.reduceBNe, BEq.rfl, hnt, hT]
    have e2 : (m : Int).fdiv (2 ^ (min 7 IntKind.u64.bits)) = ((m / 128 : Nat) : Int) := by
      rw [show (2 : Int) ^ (min 7 IntKind.u64.bits) = 128 from rfl, Int.fdiv_eq_ediv_of_nonneg _ (by decide)]; omega
    have e3 : ((m % 256 : Nat) : Int) % 128 + 128 = ((UInt8.ofNat (m % 128 + 128)).toNat : Int) := by
      simp [UInt8.toNat_ofNat']; omega
    rw [e2, e3]
    refine ⟨⟨(m / 128, l ++ [UInt8.ofNat (m % 128 + 128)]), ?_, by omega⟩, [2], (LeR.of (by rw [hbl]; decide) (by simp only [WS, JA, JB, wI64, wU64, Int.reduceAdd, Int.reduceSub, Int.reduceMul, Int.reduceLE, Int.reduceLT, Int.reduceNeg, Int.reduceToNat, Int.cast_ofNat_Int, sx0, sx1, sx2, sx3, sx4, sx5, sx6, sx7, sy0, sy1, List.filterMap_cons, JC, JD, WT, JE, JF, JG, JH, JI, JJ, JK, WU, JL, JM, JN, JO, WV, JP, JQ, WW, JR, JS, JT, JU, JV, JW, JX, JY, JZ, WA, WB, WC, WD, WE, WF, WG, WH, WI, WJ, WK, WL, WM, WN, true_and, and_true, reduceCtorEq, ↓reduceIte, ↓bifT, ↓bifF, ↓gifT, ↓gifF, eq_self, WO, WP, WQ, Nat.reduceLT, Nat.reduceLeDiff, Nat.reduceAdd, Nat.reduceSub, Nat.reduceMul, Nat.reduceMod, WR, Nat.reduceBEq, Int.reduceBEq, Int.reduceBNe, BEq.rfl, List.getD_cons_zero, List.getD_cons_succ, or_false, false_or, or_self, or_true, true_or, decide_true]; try (simp [bcells])) (by simp only [WS, JA, JB, wI64, wU64, Int.reduceAdd, Int.reduceSub, Int.reduceMul, Int.reduceLE, Int.reduceLT, Int.reduceNeg, Int.reduceToNat, Int.cast_ofNat_Int, sx0, sx1, sx2, sx3, sx4, sx5, sx6, sx7, sy0, sy1, List.filterMap_cons, JC, JD, WT, JE, JF, JG, JH, JI, JJ, JK, WU, JL, JM, JN, JO, WV, JP, JQ, WW, JR, JS, JT, JU, JV, JW, JX, JY, JZ, WA, WB, WC, WD, WE, WF, WG, WH, WI, WJ, WK, WL, WM, WN, true_and, and_true, reduceCtorEq, ↓reduceIte, ↓bifT, ↓bifF, ↓gifT, ↓gifF, eq_self, WO, WP, WQ, Nat.reduceLT, Nat.reduceLeDiff, Nat.reduceAdd, Nat.reduceSub, Nat.reduceMul, Nat.reduceMod, WR, Nat.reduceBEq, Int.reduceBEq, Int.reduceBNe, BEq.rfl, List.getD_cons_zero, List.getD_cons_succ, or_false, false_or, or_self, or_true, true_or, decide_true]; try (simp [bcells])) (by decide) (by simp only [WS, JA, JB, wI64, wU64, Int.reduceAdd, Int.reduceSub, Int.reduceMul, Int.reduceLE, Int.reduceLT, Int.reduceNeg, Int.reduceToNat, Int.cast_ofNat_Int, sx0, sx1, sx2, sx3, sx4, sx5, sx6, sx7, sy0, sy1, List.filterMap_cons, JC, JD, WT, JE, JF, JG, JH, JI, JJ, JK, WU, JL, JM, JN, JO, WV, JP, JQ, WW, JR, JS, JT, JU, JV, JW, JX, JY, JZ, WA, WB, WC, WD, WE, WF, WG, WH, WI, WJ, WK, WL, WM, WN, true_and, and_true, reduceCtorEq, ↓reduceIte, ↓bifT, ↓bifF, ↓gifT, ↓gifF, eq_self, WO, WP, WQ, Nat.reduceLT, Nat.reduceLeDiff, Nat.reduceAdd, Nat.reduceSub, Nat.reduceMul, Nat.reduceMod, WR, Nat.reduceBEq, Int.reduceBEq, Int.reduceBNe, BEq.rfl, List.getD_cons_zero, List.getD_cons_succ, or_false, false_or, or_self, or_true, true_or, decide_true]) (by simp only [WS, JA, JB, wI64, wU64, Int.reduceAdd, Int.reduceSub, Int.reduceMul, Int.reduceLE, Int.reduceLT, Int.reduceNeg, Int.reduceToNat, Int.cast_ofNat_Int, sx0, sx1, sx2, sx3, sx4, sx5, sx6, sx7, sy0, sy1, List.filterMap_cons, JC, JD, WT, JE, JF, JG, JH, JI, JJ, JK, WU, JL, JM, JN, JO, WV, JP, JQ, WW, JR, JS, JT, JU, JV, JW, JX, JY, JZ, WA, WB, WC, WD, WE, WF, WG, WH, WI, WJ, WK, WL, WM, WN, true_and, and_true, reduceCtorEq, ↓reduceIte, ↓bifT, ↓bifF, ↓gifT, ↓gifF, eq_self, WO, WP, WQ, Nat.reduceLT, Nat.reduceLeDiff, Nat.reduceAdd, Nat.reduceSub, Nat.reduceMul, Nat.reduceMod, WR, Nat.reduceBEq, Int.reduceBEq, Int.reduceBNe, BEq.rfl, List.getD_cons_zero, List.getD_cons_succ, or_false, false_or, or_self, or_true, true_or, decide_true]) (by simp only [WS, JA, JB, wI64, wU64, Int.reduceAdd, Int.reduceSub, Int.reduceMul, Int.reduceLE, Int.reduceLT, Int.reduceNeg, Int.reduceToNat, Int.cast_ofNat_Int, sx0, sx1, sx2, sx3, sx4, sx5, sx6, sx7, sy0, sy1, List.filterMap_cons, JC, JD, WT, JE, JF, JG, JH, JI, JJ, JK, WU, JL, JM, JN, JO, WV, JP, JQ, WW, JR, JS, JT, JU, JV, JW, JX, JY, JZ, WA, WB, WC, WD, WE, WF, WG, WH, WI, WJ, WK, WL, WM, WN, true_and, and_true, reduceCtorEq, ↓reduceIte, ↓bifT, ↓bifF, ↓gifT, ↓gifF, eq_self, WO, WP, WQ, Nat.reduceLT, Nat.reduceLeDiff, Nat.reduceAdd, Nat.reduceSub, Nat.reduceMul, Nat.reduceMod, WR, Nat.reduceBEq, Int.reduceBEq, Int.reduceBNe, BEq.rfl, List.getD_cons_zero, List.getD_cons_succ, or_false, false_or, or_self, or_true, true_or, decide_true])), (by show m / 128 < m; omega)⟩
    rw [← hml, NW.varint_ge (by omega : ¬ m < 128)]; simp
  · refine SX.exit ?_
    simp only [WS, JA, JB, wI64, wU64, Int.reduceAdd, Int.reduceSub, Int.reduceMul, Int.reduceLE, Int.reduceLT, Int.reduceNeg, Int.reduceToNat, Int.cast_ofNat_Int, sx0, sx1, sx2, sx3, sx4, sx5, sx6, sx7, sy0, sy1, List.filterMap_cons, JC, JD, WT, JE, JF, JG, JH, JI, JJ, JK, WU, JL, JM, JN, JO, WV, JP, JQ, WW, JR, JS, JT, JU, JV, JW, JX, JY, JZ, WA, WB, WC, WD, WE, WF, WG, WH, WI, WJ, WK, WL, WM, WN, true_and, and_true, reduceCtorEq, ↓reduceIte, ↓bifT, ↓bifF, ↓gifT, ↓gifF, eq_self, WO, WP, WQ, Nat.reduceLT, Nat.reduceLeDiff, Nat.reduceAdd, Nat.reduceSub, Nat.reduceMul, Nat.reduceMod, WR, Nat.reduceBEq, Int.reduceBEq, Int.reduceBNe, BEq.rfl, hnt]
    have hb' : m < 128 := by have := of_decide_eq_false hb; omega
    refine hN _ ?_
    clear hN hN2 N N2
    refine SX.seqK ?_
    intro N hN
    refine SX.ops ?_
    simp only [WS, JA, JB, wI64, wU64, Int.reduceAdd, Int.reduceSub, Int.reduceMul, Int.reduceLE, Int.reduceLT, Int.reduceNeg, Int.reduceToNat, Int.cast_ofNat_Int, sx0, sx1, sx2, sx3, sx4, sx5, sx6, sx7, sy0, sy1, List.filterMap_cons, JC, JD, WT, JE, JF, JG, JH, JI, JJ, JK, WU, JL, JM, JN, JO, WV, JP, JQ, WW, JR, JS, JT, JU, JV, JW, JX, JY, JZ, WA, WB, WC, WD, WE, WF, WG, WH, WI, WJ, WK, WL, WM, WN, true_and, and_true, reduceCtorEq, ↓reduceIte, ↓bifT, ↓bifF, ↓gifT, ↓gifF, eq_self, WO, WP, WQ, Nat.reduceLT, Nat.reduceLeDiff, Nat.reduceAdd, Nat.reduceSub, Nat.reduceMul, Nat.reduceMod, WR, Nat.reduceBEq, Int.reduceBEq, Int.reduceBNe, BEq.rfl, hnt, hT]
    have e1 : IntKind.u8.wrap (m : Int) = ((UInt8.ofNat m).toNat : Int) := by rw [IntKind.wrap_u8]; simp [UInt8.toNat_ofNat']
    rw [e1]
    refine ⟨by omega, l ++ [UInt8.ofNat m], by simp [bcells], ?_⟩
    refine hN _ ?_
    clear hN N
    refine SX.ret (hK _ _ (Fin.one rfl rfl hown ?_))
    rw [hwi]; intro w' hb; exact ⟨by rw [← hml, NW.varint_lt hb'], hb⟩
end Go.Proofs.YtbdacbcpniegiaaDoor
namespace Go.Proofs.YtbdacbcpniegiaaDoor
open Go Go.RowKit Go.Proofs Go.Sx
set_option maxHeartbeats 4000000
set_option maxRecDepth 100000
set_option linter.unusedSimpArgs false
set_option linter.unusedVariables false
theorem isNaN_int (a : Int) (w : World) : Calls Tryd.prog 148 #[.int .i64 a] w fun e w' => e = .returned (.bool false) ∧ Below w.heap.size w w' := by
  refine calls_pureK (args := [.int .i64 a]) w Tryd.func148 rfl Tryd.ntmps148 (by simp) ?_
  intro X K hX hK
  have hnt : X.nt = 6 := by rw [hX]
  have hwi : X.wi = w := by rw [hX]
  have hP : X.P = Tryd.prog := by rw [hX]
  have hown : X.own = [] := by rw [hX]
  have hbl : X.base.length = 0 := by rw [hX]; rfl
  clear hX
  have hT : True := trivial
  repeat' (first
    | (refine SX.seqK ?_; intro N hN)
    | ((first | (refine SX.ops ?_)); simp only [WS, JA, JB, wI64, wU64, Int.reduceAdd, Int.reduceSub, Int.reduceMul, Int.reduceLE, Int.reduceLT, Int.reduceNeg, Int.reduceToNat, Int.cast_ofNat_Int, sx0, sx1, sx2, sx3, sx4, sx5, sx6, sx7, sy0, sy1, List.filterMap_cons, JC, JD, WT, JE, JF, JG, JH, JI, JJ, JK, WU, JL, JM, JN, JO, WV, JP, JQ, WW, JR, JS, JT, JU, JV, JW, JX, JY, JZ, WA, WB, WC, WD, WE, WF, WG, WH, WI, WJ, WK, WL, WM, WN, true_and, and_true, reduceCtorEq, ↓reduceIte, ↓bifT, ↓bifF, ↓gifT, ↓gifF, eq_self, WO, WP, WQ, Nat.reduceLT, Nat.reduceLeDiff, Nat.reduceAdd, Nat.reduceSub, Nat.reduceMul, Nat.reduceMod, WR, Nat.reduceBEq, Int.reduceBEq, Int.reduceBNe, BEq.rfl, hnt, hT])
    | ((first | refine SX.skip ?_ | refine SX.exit ?_ | refine SX.label ?_); try simp only [WS, JA, JB, wI64, wU64, Int.reduceAdd, Int.reduceSub, Int.reduceMul, Int.reduceLE, Int.reduceLT, Int.reduceNeg, Int.reduceToNat, Int.cast_ofNat_Int, sx0, sx1, sx2, sx3, sx4, sx5, sx6, sx7, sy0, sy1, List.filterMap_cons, JC, JD, WT, JE, JF, JG, JH, JI, JJ, JK, WU, JL, JM, JN, JO, WV, JP, JQ, WW, JR, JS, JT, JU, JV, JW, JX, JY, JZ, WA, WB, WC, WD, WE, WF, WG, WH, WI, WJ, WK, WL, WM, WN, true_and, and_true, reduceCtorEq, ↓reduceIte, ↓bifT, ↓bifF, ↓gifT, ↓gifF, eq_self, WO, WP, WQ, Nat.reduceLT, Nat.reduceLeDiff, Nat.reduceAdd, Nat.reduceSub, Nat.reduceMul, Nat.reduceMod, WR, Nat.reduceBEq, Int.reduceBEq, Int.reduceBNe, BEq.rfl])
    | (refine SX.cond rfl (fun hb => ?_) (fun hb => ?_) <;> ((first | cases hb | (simp only [decide_eq_true_eq, decide_eq_false_iff_not, beq_iff_eq, beq_eq_false_iff_ne, bne_iff_ne, Bool.and_eq_true, Bool.or_eq_true, Bool.not_eq_true', Bool.not_eq_false', Bool.and_eq_false_iff, Bool.or_eq_false_iff, Int.not_lt, Int.not_le] at hb) | skip) <;> (first | (exfalso; omega) | skip)))
    | (refine SX.ret ?_; try simp only [WS, JA, JB, wI64, wU64, Int.reduceAdd, Int.reduceSub, Int.reduceMul, Int.reduceLE, Int.reduceLT, Int.reduceNeg, Int.reduceToNat, Int.cast_ofNat_Int, sx0, sx1, sx2, sx3, sx4, sx5, sx6, sx7, sy0, sy1, List.filterMap_cons, JC, JD, WT, JE, JF, JG, JH, JI, JJ, JK, WU, JL, JM, JN, JO, WV, JP, JQ, WW, JR, JS, JT, JU, JV, JW, JX, JY, JZ, WA, WB, WC, WD, WE, WF, WG, WH, WI, WJ, WK, WL, WM, WN, true_and, and_true, reduceCtorEq, ↓reduceIte, ↓bifT, ↓bifF, ↓gifT, ↓gifF, eq_self, WO, WP, WQ, Nat.reduceLT, Nat.reduceLeDiff, Nat.reduceAdd, Nat.reduceSub, Nat.reduceMul, Nat.reduceMod, WR, Nat.reduceBEq, Int.reduceBEq, Int.reduceBNe, BEq.rfl])
    | (refine hN _ ?_; clear hN N)
    | (refine hK _ _ (Fin.res rfl hown ?_); simp only [WS, JA, JB, wI64, wU64, Int.reduceAdd, Int.reduceSub, Int.reduceMul, Int.reduceLE, Int.reduceLT, Int.reduceNeg, Int.reduceToNat, Int.cast_ofNat_Int, sx0, sx1, sx2, sx3, sx4, sx5, sx6, sx7, sy0, sy1, List.filterMap_cons, JC, JD, WT, JE, JF, JG, JH, JI, JJ, JK, WU, JL, JM, JN, JO, WV, JP, JQ, WW, JR, JS, JT, JU, JV, JW, JX, JY, JZ, WA, WB, WC, WD, WE, WF, WG, WH, WI, WJ, WK, WL, WM, WN, true_and, and_true, reduceCtorEq, ↓reduceIte, ↓bifT, ↓bifF, ↓gifT, ↓gifF, eq_self, WO, WP, WQ, Nat.reduceLT, Nat.reduceLeDiff, Nat.reduceAdd, Nat.reduceSub, Nat.reduceMul, Nat.reduceMod, WR, Nat.reduceBEq, Int.reduceBEq, Int.reduceBNe, BEq.rfl, f_a, f_b, f_n, f_c, f_B, f_v, f_g, f_0, f_1, f_2, hT, hwi]; intro w' hbel; refine Done.out ?_)
    | (clear hN N; first | (refine hN _ ?_; clear hN N) | (clear hN N; first | (refine hN _ ?_; clear hN N) | (clear hN N; first | (refine hN _ ?_; clear hN N) | (clear hN N; first | (refine hN _ ?_; clear hN N) | (clear hN N; first | (refine hN _ ?_; clear hN N) | (refine hN _ ?_; clear hN N))))))
    | (refine bif2.mk (fun hb => ?_) (fun hb => ?_) <;> (try simp only [hb, WS, JA, JB, wI64, wU64, Int.reduceAdd, Int.reduceSub, Int.reduceMul, Int.reduceLE, Int.reduceLT, Int.reduceNeg, Int.reduceToNat, Int.cast_ofNat_Int, sx0, sx1, sx2, sx3, sx4, sx5, sx6, sx7, sy0, sy1, List.filterMap_cons, JC, JD, WT, JE, JF, JG, JH, JI, JJ, JK, WU, JL, JM, JN, JO, WV, JP, JQ, WW, JR, JS, JT, JU, JV, JW, JX, JY, JZ, WA, WB, WC, WD, WE, WF, WG, WH, WI, WJ, WK, WL, WM, WN, true_and, and_true, reduceCtorEq, ↓reduceIte, ↓bifT, ↓bifF, ↓gifT, ↓gifF, eq_self, WO, WP, WQ, Nat.reduceLT, Nat.reduceLeDiff, Nat.reduceAdd, Nat.reduceSub, Nat.reduceMul, Nat.reduceMod, WR, Nat.reduceBEq, Int.reduceBEq, Int.reduceBNe, BEq.rfl, hnt, hT]) <;> ((first | cases hb | (simp only [decide_eq_true_eq, decide_eq_false_iff_not, beq_iff_eq, beq_eq_false_iff_ne, bne_iff_ne, Bool.and_eq_true, Bool.or_eq_true, Bool.not_eq_true', Bool.not_eq_false', Bool.and_eq_false_iff, Bool.or_eq_false_iff, Int.not_lt, Int.not_le] at hb) | skip) <;> (first | (exfalso; omega) | skip)))
    | (refine SX.block ?_)
    | (refine and_mk ?_ ?_; (focus first | decide | omega | rfl | assumption | (simp only [List.length_append, List.length_cons, List.length_nil, B_size]; omega) | (simp; done)))
    | (refine And.intro ?_ ?_))
  all_goals (try refine Done.mk ?_)
  exact hbel
theorem isNaN_u64 (a : Int) (w : World) : Calls Tryd.prog 133 #[.int .u64 a] w fun e w' => e = .returned (.bool false) ∧ Below w.heap.size w w' := by
  refine calls_pureK (args := [.int .u64 a]) w Tryd.func133 rfl Tryd.ntmps133 (by simp) ?_
  intro X K hX hK
  have hnt : X.nt = 6 := by rw [hX]
  have hwi : X.wi = w := by rw [hX]
  have hP : X.P = Tryd.prog := by rw [hX]
  have hown : X.own = [] := by rw [hX]
  have hbl : X.base.length = 0 := by rw [hX]; rfl
  clear hX
  have hT : True := trivial
  repeat' (first
    | (refine SX.seqK ?_; intro N hN)
    | ((first | (refine SX.ops ?_)); simp only [WS, JA, JB, wI64, wU64, Int.reduceAdd, Int.reduceSub, Int.reduceMul, Int.reduceLE, Int.reduceLT, Int.reduceNeg, Int.reduceToNat, Int.cast_ofNat_Int, sx0, sx1, sx2, sx3, sx4, sx5, sx6, sx7, sy0, sy1, List.filterMap_cons, JC, JD, WT, JE, JF, JG, JH, JI, JJ, JK, WU, JL, JM, JN, JO, WV, JP, JQ, WW, JR, JS, JT, JU, JV, JW, JX, JY, JZ, WA, WB, WC, WD, WE, WF, WG, WH, WI, WJ, WK, WL, WM, WN, true_and, and_true, reduceCtorEq, ↓reduceIte, ↓bifT, ↓bifF, ↓gifT, ↓gifF, eq_self, WO, WP, WQ, Nat.reduceLT, Nat.reduceLeDiff, Nat.reduceAdd, Nat.reduceSub, Nat.reduceMul, Nat.reduceMod, WR, Nat.reduceBEq, Int.reduceBEq, Int.reduceBNe, BEq.rfl, hnt, hT])
    | ((first | refine SX.skip ?_ | refine SX.exit ?_ | refine SX.label ?_); try simp only [WS, JA, JB, wI64, wU64, Int.reduceAdd, Int.reduceSub, Int.reduceMul, Int.reduceLE, Int.reduceLT, Int.reduceNeg, Int.reduceToNat, Int.cast_ofNat_Int, sx0, sx1, sx2, sx3, sx4, sx5, sx6, sx7, sy0, sy1, List.filterMap_cons, JC, JD, WT, JE, JF, JG, JH, JI, JJ, JK, WU, JL, JM, JN, JO, WV, JP, JQ, WW, JR, JS, JT, JU, JV, JW, JX, JY, JZ, WA, WB, WC, WD, WE, WF, WG, WH, WI, WJ, WK, WL, WM, WN, true_and, and_true, reduceCtorEq, ↓reduceIte, ↓bifT, ↓bifF, ↓gifT, ↓gifF, eq_self, WO, WP, WQ, Nat.reduceLT, Nat.reduceLeDiff, Nat.reduceAdd, Nat.reduceSub, Nat.reduceMul, Nat.reduceMod, WR, Nat.reduceBEq, Int.reduceBEq, Int.reduceBNe, BEq.rfl])
    | (refine SX.cond rfl (fun hb => ?_) (fun hb => ?_) <;> ((first | cases hb | (simp only [decide_eq_true_eq, decide_eq_false_iff_not, beq_iff_eq, beq_eq_false_iff_ne, bne_iff_ne, Bool.and_eq_true, Bool.or_eq_true, Bool.not_eq_true', Bool.not_eq_false', Bool.and_eq_false_iff, Bool.or_eq_false_iff, Int.not_lt, Int.not_le] at hb) | skip) <;> (first | (exfalso; omega) | skip)))
    | (refine SX.ret ?_; try simp only [WS, JA, JB, wI64, wU64, Int.reduceAdd, Int.reduceSub, Int.reduceMul, Int.reduceLE, Int.reduceLT, Int.reduceNeg, Int.reduceToNat, Int.cast_ofNat_Int, sx0, sx1, sx2, sx3, sx4, sx5, sx6, sx7, sy0, sy1, List.filterMap_cons, JC, JD, WT, JE, JF, JG, JH, JI, JJ, JK, WU, JL, JM, JN, JO, WV, JP, JQ, WW, JR, JS, JT, JU, JV, JW, JX, JY, JZ, WA, WB, WC, WD, WE, WF, WG, WH, WI, WJ, WK, WL, WM, WN, true_and, and_true, reduceCtorEq, ↓reduceIte, ↓bifT, ↓bifF, ↓gifT, ↓gifF, eq_self, WO, WP, WQ, Nat.reduceLT, Nat.reduceLeDiff, Nat.reduceAdd, Nat.reduceSub, Nat.reduceMul, Nat.reduceMod, WR, Nat.reduceBEq, Int.reduceBEq, Int.reduceBNe, BEq.rfl])
    | (refine hN _ ?_; clear hN N)
    | (refine hK _ _ (Fin.res rfl hown ?_); simp only [WS, JA, JB, wI64, wU64, Int.reduceAdd, Int.reduceSub, Int.reduceMul, Int.reduceLE, Int.reduceLT, Int.reduceNeg, Int.reduceToNat, Int.cast_ofNat_Int, sx0, sx1, sx2, sx3, sx4, sx5, sx6, sx7, sy0, sy1, List.filterMap_cons, JC, JD, WT, JE, JF, JG, JH, JI, JJ, JK, WU, JL, JM, JN, JO, WV, JP, JQ, WW, JR, JS, JT, JU, JV, JW, JX, JY, JZ, WA, WB, WC, WD, WE, WF, WG, WH, WI, WJ, WK, WL, WM, WN, true_and, and_true, reduceCtorEq, ↓reduceIte, ↓bifT, ↓bifF, ↓gifT, ↓gifF, eq_self, WO, WP, WQ, Nat.reduceLT, Nat.reduceLeDiff, Nat.reduceAdd, Nat.reduceSub, Nat.reduceMul, Nat.reduceMod, WR, Nat.reduceBEq, Int.reduceBEq, Int.reduceBNe, BEq.rfl, f_a, f_b, f_n, f_c, f_B, f_v, f_g, f_0, f_1, f_2, hT, hwi]; intro w' hbel; refine Done.out ?_)
    | (clear hN N; first | (refine hN _ ?_; clear hN N) | (clear hN N; first | (refine hN _ ?_; clear hN N) | (clear hN N; first | (refine hN _ ?_; clear hN N) | (clear hN N; first | (refine hN _ ?_; clear hN N) | (clear hN N; first | (refine hN _ ?_; clear hN N) | (refine hN _ ?_; clear hN N))))))
    | (refine bif2.mk (fun hb => ?_) (fun hb => ?_) <;> (try simp only [hb, WS, JA, JB, wI64, wU64, Int.reduceAdd, Int.reduceSub, Int.reduceMul, Int.reduceLE, Int.reduceLT, Int.reduceNeg, Int.reduceToNat, Int.cast_ofNat_Int, sx0, sx1, sx2, sx3, sx4, sx5, sx6, sx7, sy0, sy1, List.filterMap_cons, JC, JD, WT, JE, JF, JG, JH, JI, JJ, JK, WU, JL, JM, JN, JO, WV, JP, JQ, WW, JR, JS, JT, JU, JV, JW, JX, JY, JZ, WA, WB, WC, WD, WE, WF, WG, WH, WI, WJ, WK, WL, WM, WN, true_and, and_true, reduceCtorEq, ↓reduceIte, ↓bifT, ↓bifF, ↓gifT, ↓gifF, eq_self, WO, WP, WQ, Nat.reduceLT, Nat.reduceLeDiff, Nat.reduceAdd, Nat.reduceSub, Nat.reduceMul, Nat.reduceMod, WR, Nat.reduceBEq, Int.reduceBEq, Int.reduceBNe, BEq.rfl, hnt, hT]) <;> ((first | cases hb | (simp only [decide_eq_true_eq, decide_eq_false_iff_not, beq_iff_eq, beq_eq_false_iff_ne, bne_iff_ne, Bool.and_eq_true, Bool.or_eq_true, Bool.not_eq_true', Bool.not_eq_false', Bool.and_eq_false_iff, Bool.or_eq_false_iff, Int.not_lt, Int.not_le] at hb) | skip) <;> (first | (exfalso; omega) | skip)))
    | (refine SX.block ?_)
    | (refine and_mk ?_ ?_; (focus first | decide | omega | rfl | assumption | (simp only [List.length_append, List.length_cons, List.length_nil, B_size]; omega) | (simp; done)))
    | (refine And.intro ?_ ?_))
  all_goals (try refine Done.mk ?_)
  exact hbel
theorem isNaN_str (s : List UInt8) (w : World) : Calls Tryd.prog 149 #[.string (B s)] w fun e w' => e = .returned (.bool false) ∧ Below w.heap.size w w' := by
  refine calls_pureK (args := [.string (B s)]) w Tryd.func149 rfl Tryd.ntmps149 (by simp) ?_
  intro X K hX hK
  have hnt : X.nt = 6 := by rw [hX]
  have hwi : X.wi = w := by rw [hX]
  have hP : X.P = Tryd.prog := by rw [hX]
  have hown : X.own = [] := by rw [hX]
  have hbl : X.base.length = 0 := by rw [hX]; rfl
  clear hX
  have hT : True := trivial
  repeat' (first
    | (refine SX.seqK ?_; intro N hN)
    | ((first | (refine SX.ops ?_)); simp only [WS, JA, JB, wI64, wU64, Int.reduceAdd, Int.reduceSub, Int.reduceMul, Int.reduceLE, Int.reduceLT, Int.reduceNeg, Int.reduceToNat, Int.cast_ofNat_Int, sx0, sx1, sx2, sx3, sx4, sx5, sx6, sx7, sy0, sy1, List.filterMap_cons, JC, JD, WT, JE, JF, JG, JH, JI, JJ, JK, WU, JL, JM, JN, JO, WV, JP, JQ, WW, JR, JS, JT, JU, JV, JW, JX, JY, JZ, WA, WB, WC, WD, WE, WF, WG, WH, WI, WJ, WK, WL, WM, WN, true_and, and_true, reduceCtorEq, ↓reduceIte, ↓bifT, ↓bifF, ↓gifT, ↓gifF, eq_self, WO, WP, WQ, Nat.reduceLT, Nat.reduceLeDiff, Nat.reduceAdd, Nat.reduceSub, Nat.reduceMul, Nat.reduceMod, WR, Nat.reduceBEq, Int.reduceBEq, Int.reduceBNe, BEq.rfl, hnt, hT])
    | ((first | refine SX.skip ?_ | refine SX.exit ?_ | refine SX.label ?_); try simp only [WS, JA, JB, wI64, wU64, Int.reduceAdd, Int.reduceSub, Int.reduceMul, Int.reduceLE, Int.reduceLT, Int.reduceNeg, Int.reduceToNat, Int.cast_ofNat_Int, sx0, sx1, sx2, sx3, sx4, sx5, sx6, sx7, sy0, sy1, List.filterMap_cons, JC, JD, WT, JE, JF, JG, JH, JI, JJ, JK, WU, JL, JM, JN, JO, WV, JP, JQ, WW, JR, JS, JT, JU, JV, JW, JX, JY, JZ, WA, WB, WC, WD, WE, WF, WG, WH, WI, WJ, WK, WL, WM, WN, true_and, and_true, reduceCtorEq, ↓reduceIte, ↓bifT, ↓bifF, ↓gifT, ↓gifF, eq_self, WO, WP, WQ, Nat.reduceLT, Nat.reduceLeDiff, Nat.reduceAdd, Nat.reduceSub, Nat.reduceMul, Nat.reduceMod, WR, Nat.reduceBEq, Int.reduceBEq, Int.reduceBNe, BEq.rfl])
    | (refine SX.cond rfl (fun hb => ?_) (fun hb => ?_) <;> ((first | cases hb | (simp only [decide_eq_true_eq, decide_eq_false_iff_not, beq_iff_eq, beq_eq_false_iff_ne, bne_iff_ne, Bool.and_eq_true, Bool.or_eq_true, Bool.not_eq_true', Bool.not_eq_false', Bool.and_eq_false_iff, Bool.or_eq_false_iff, Int.not_lt, Int.not_le] at hb) | skip) <;> (first | (exfalso; omega) | skip)))
    | (refine SX.ret ?_; try simp only [WS, JA, JB, wI64, wU64, Int.reduceAdd, Int.reduceSub, Int.reduceMul, Int.reduceLE, Int.reduceLT, Int.reduceNeg, Int.reduceToNat, Int.cast_ofNat_Int, sx0, sx1, sx2, sx3, sx4, sx5, sx6, sx7, sy0, sy1, List.filterMap_cons, JC, JD, WT, JE, JF, JG, JH, JI, JJ, JK, WU, JL, JM, JN, JO, WV, JP, JQ, WW, JR, JS, JT, JU, JV, JW, JX, JY, JZ, WA, WB, WC, WD, WE, WF, WG, WH, WI, WJ, WK, WL, WM, WN, true_and, and_true, reduceCtorEq, ↓reduceIte, ↓bifT, ↓bifF, ↓gifT, ↓gifF, eq_self, WO, WP, WQ, Nat.reduceLT, Nat.reduceLeDiff, Nat.reduceAdd, Nat.reduceSub, Nat.reduceMul, Nat.reduceMod, WR, Nat.reduceBEq, Int.reduceBEq, Int.reduceBNe, BEq.rfl])
    | (refine hN _ ?_; clear hN N)
    | (refine hK _ _ (Fin.res rfl hown ?_); simp only [WS, JA, JB, wI64, wU64, Int.reduceAdd, Int.reduceSub, Int.reduceMul, Int.reduceLE, Int.reduceLT, Int.reduceNeg, Int.reduceToNat, Int.cast_ofNat_Int, sx0, sx1, sx2, sx3, sx4, sx5, sx6, sx7, sy0, sy1, List.filterMap_cons, JC, JD, WT, JE, JF, JG, JH, JI, JJ, JK, WU, JL, JM, JN, JO, WV, JP, JQ, WW, JR, JS, JT, JU, JV, JW, JX, JY, JZ, WA, WB, WC, WD, WE, WF, WG, WH, WI, WJ, WK, WL, WM, WN, true_and, and_true, reduceCtorEq, ↓reduceIte, ↓bifT, ↓bifF, ↓gifT, ↓gifF, eq_self, WO, WP, WQ, Nat.reduceLT, Nat.reduceLeDiff, Nat.reduceAdd, Nat.reduceSub, Nat.reduceMul, Nat.reduceMod, WR, Nat.reduceBEq, Int.reduceBEq, Int.reduceBNe, BEq.rfl, f_a, f_b, f_n, f_c, f_B, f_v, f_g, f_0, f_1, f_2, hT, hwi]; intro w' hbel; refine Done.out ?_)
    | (clear hN N; first | (refine hN _ ?_; clear hN N) | (clear hN N; first | (refine hN _ ?_; clear hN N) | (clear hN N; first | (refine hN _ ?_; clear hN N) | (clear hN N; first | (refine hN _ ?_; clear hN N) | (clear hN N; first | (refine hN _ ?_; clear hN N) | (refine hN _ ?_; clear hN N))))))
    | (refine bif2.mk (fun hb => ?_) (fun hb => ?_) <;> (try simp only [hb, WS, JA, JB, wI64, wU64, Int.reduceAdd, Int.reduceSub, Int.reduceMul, Int.reduceLE, Int.reduceLT, Int.reduceNeg, Int.reduceToNat, Int.cast_ofNat_Int, sx0, sx1, sx2, sx3, sx4, sx5, sx6, sx7, sy0, sy1, List.filterMap_cons, JC, JD, WT, JE, JF, JG, JH, JI, JJ, JK, WU, JL, JM, JN, JO, WV, JP, JQ, WW, JR, JS, JT, JU, JV, JW, JX, JY, JZ, WA, WB, WC, WD, WE, WF, WG, WH, WI, WJ, WK, WL, WM, WN, true_and, and_true, reduceCtorEq, ↓reduceIte, ↓bifT, ↓bifF, ↓gifT, ↓gifF, eq_self, WO, WP, WQ, Nat.reduceLT, Nat.reduceLeDiff, Nat.reduceAdd, Nat.reduceSub, Nat.reduceMul, Nat.reduceMod, WR, Nat.reduceBEq, Int.reduceBEq, Int.reduceBNe, BEq.rfl, hnt, hT]) <;> ((first | cases hb | (simp only [decide_eq_true_eq, decide_eq_false_iff_not, beq_iff_eq, beq_eq_false_iff_ne, bne_iff_ne, Bool.and_eq_true, Bool.or_eq_true, Bool.not_eq_true', Bool.not_eq_false', Bool.and_eq_false_iff, Bool.or_eq_false_iff, Int.not_lt, Int.not_le] at hb) | skip) <;> (first | (exfalso; omega) | skip)))
    | (refine SX.block ?_)
    | (refine and_mk ?_ ?_; (focus first | decide | omega | rfl | assumption | (simp only [List.length_append, List.length_cons, List.length_nil, B_size]; omega) | (simp; done)))
    | (refine And.intro ?_ ?_))
  all_goals (try refine Done.mk ?_)
  exact hbel
theorem compare_int (a b : Int) (w : World) : Calls Tryd.prog 120 #[.int .i64 a, .int .i64 b] w fun e w' => e = .returned (.int .i64 (cmpI a b)) ∧ Below w.heap.size w w' := by
  refine calls_pureK (args := [.int .i64 a, .int .i64 b]) w Tryd.func120 rfl Tryd.ntmps120 (by simp) ?_
  intro X K hX hK
  have hnt : X.nt = 20 := by rw [hX]
  have hwi : X.wi = w := by rw [hX]
  have hP : X.P = Tryd.prog := by rw [hX]
  have hown : X.own = [] := by rw [hX]
  have hbl : X.base.length = 0 := by rw [hX]; rfl
  clear hX
  have hT : calleeOk X.P 148 = true := by rw [hP]; exact Ty.co148
  repeat' (first
    | (refine SX.seqK ?_; intro N hN)
    | ((first | (refine SX.ops ?_)); simp only [WS, JA, JB, wI64, wU64, Int.reduceAdd, Int.reduceSub, Int.reduceMul, Int.reduceLE, Int.reduceLT, Int.reduceNeg, Int.reduceToNat, Int.cast_ofNat_Int, sx0, sx1, sx2, sx3, sx4, sx5, sx6, sx7, sy0, sy1, List.filterMap_cons, JC, JD, WT, JE, JF, JG, JH, JI, JJ, JK, WU, JL, JM, JN, JO, WV, JP, JQ, WW, JR, JS, JT, JU, JV, JW, JX, JY, JZ, WA, WB, WC, WD, WE, WF, WG, WH, WI, WJ, WK, WL, WM, WN, true_and, and_true, reduceCtorEq, ↓reduceIte, ↓bifT, ↓bifF, ↓gifT, ↓gifF, eq_self, WO, WP, WQ, Nat.reduceLT, Nat.reduceLeDiff, Nat.reduceAdd, Nat.reduceSub, Nat.reduceMul, Nat.reduceMod, WR, Nat.reduceBEq, Int.reduceBEq, Int.reduceBNe, BEq.rfl, hnt, hT])
    | ((first | refine SX.skip ?_ | refine SX.exit ?_ | refine SX.label ?_); try simp only [WS, JA, JB, wI64, wU64, Int.reduceAdd, Int.reduceSub, Int.reduceMul, Int.reduceLE, Int.reduceLT, Int.reduceNeg, Int.reduceToNat, Int.cast_ofNat_Int, sx0, sx1, sx2, sx3, sx4, sx5, sx6, sx7, sy0, sy1, List.filterMap_cons, JC, JD, WT, JE, JF, JG, JH, JI, JJ, JK, WU, JL, JM, JN, JO, WV, JP, JQ, WW, JR, JS, JT, JU, JV, JW, JX, JY, JZ, WA, WB, WC, WD, WE, WF, WG, WH, WI, WJ, WK, WL, WM, WN, true_and, and_true, reduceCtorEq, ↓reduceIte, ↓bifT, ↓bifF, ↓gifT, ↓gifF, eq_self, WO, WP, WQ, Nat.reduceLT, Nat.reduceLeDiff, Nat.reduceAdd, Nat.reduceSub, Nat.reduceMul, Nat.reduceMod, WR, Nat.reduceBEq, Int.reduceBEq, Int.reduceBNe, BEq.rfl])
    | (refine SX.cond rfl (fun hb => ?_) (fun hb => ?_) <;> ((first | cases hb | (simp only [decide_eq_true_eq, decide_eq_false_iff_not, beq_iff_eq, beq_eq_false_iff_ne, bne_iff_ne, Bool.and_eq_true, Bool.or_eq_true, Bool.not_eq_true', Bool.not_eq_false', Bool.and_eq_false_iff, Bool.or_eq_false_iff, Int.not_lt, Int.not_le] at hb) | skip) <;> (first | (exfalso; omega) | skip)))
    | (refine SX.ret ?_; try simp only [WS, JA, JB, wI64, wU64, Int.reduceAdd, Int.reduceSub, Int.reduceMul, Int.reduceLE, Int.reduceLT, Int.reduceNeg, Int.reduceToNat, Int.cast_ofNat_Int, sx0, sx1, sx2, sx3, sx4, sx5, sx6, sx7, sy0, sy1, List.filterMap_cons, JC, JD, WT, JE, JF, JG, JH, JI, JJ, JK, WU, JL, JM, JN, JO, WV, JP, JQ, WW, JR, JS, JT, JU, JV, JW, JX, JY, JZ, WA, WB, WC, WD, WE, WF, WG, WH, WI, WJ, WK, WL, WM, WN, true_and, and_true, reduceCtorEq, ↓reduceIte, ↓bifT, ↓bifF, ↓gifT, ↓gifF, eq_self, WO, WP, WQ, Nat.reduceLT, Nat.reduceLeDiff, Nat.reduceAdd, Nat.reduceSub, Nat.reduceMul, Nat.reduceMod, WR, Nat.reduceBEq, Int.reduceBEq, Int.reduceBNe, BEq.rfl])
    | (refine hN _ ?_; clear hN N)
    | (refine hK _ _ (Fin.res rfl hown ?_); simp only [WS, JA, JB, wI64, wU64, Int.reduceAdd, Int.reduceSub, Int.reduceMul, Int.reduceLE, Int.reduceLT, Int.reduceNeg, Int.reduceToNat, Int.cast_ofNat_Int, sx0, sx1, sx2, sx3, sx4, sx5, sx6, sx7, sy0, sy1, List.filterMap_cons, JC, JD, WT, JE, JF, JG, JH, JI, JJ, JK, WU, JL, JM, JN, JO, WV, JP, JQ, WW, JR, JS, JT, JU, JV, JW, JX, JY, JZ, WA, WB, WC, WD, WE, WF, WG, WH, WI, WJ, WK, WL, WM, WN, true_and, and_true, reduceCtorEq, ↓reduceIte, ↓bifT, ↓bifF, ↓gifT, ↓gifF, eq_self, WO, WP, WQ, Nat.reduceLT, Nat.reduceLeDiff, Nat.reduceAdd, Nat.reduceSub, Nat.reduceMul, Nat.reduceMod, WR, Nat.reduceBEq, Int.reduceBEq, Int.reduceBNe, BEq.rfl, f_a, f_b, f_n, f_c, f_B, f_v, f_g, f_0, f_1, f_2, hT, hwi]; intro w' hbel; refine Done.out ?_)
    | (clear hN N; first | (refine hN _ ?_; clear hN N) | (clear hN N; first | (refine hN _ ?_; clear hN N) | (clear hN N; first | (refine hN _ ?_; clear hN N) | (clear hN N; first | (refine hN _ ?_; clear hN N) | (clear hN N; first | (refine hN _ ?_; clear hN N) | (refine hN _ ?_; clear hN N))))))
    | (refine bif2.mk (fun hb => ?_) (fun hb => ?_) <;> (try simp only [hb, WS, JA, JB, wI64, wU64, Int.reduceAdd, Int.reduceSub, Int.reduceMul, Int.reduceLE, Int.reduceLT, Int.reduceNeg, Int.reduceToNat, Int.cast_ofNat_Int, sx0, sx1, sx2, sx3, sx4, sx5, sx6, sx7, sy0, sy1, List.filterMap_cons, JC, JD, WT, JE, JF, JG, JH, JI, JJ, JK, WU, JL, JM, JN, JO, WV, JP, JQ, WW, JR, JS, JT, JU, JV, JW, JX, JY, JZ, WA, WB, WC, WD, WE, WF, WG, WH, WI, WJ, WK, WL, WM, WN, true_and, and_true, reduceCtorEq, ↓reduceIte, ↓bifT, ↓bifF, ↓gifT, ↓gifF, eq_self, WO, WP, WQ, Nat.reduceLT, Nat.reduceLeDiff, Nat.reduceAdd, Nat.reduceSub, Nat.reduceMul, Nat.reduceMod, WR, Nat.reduceBEq, Int.reduceBEq, Int.reduceBNe, BEq.rfl, hnt, hT]) <;> ((first | cases hb | (simp only [decide_eq_true_eq, decide_eq_false_iff_not, beq_iff_eq, beq_eq_false_iff_ne, bne_iff_ne, Bool.and_eq_true, Bool.or_eq_true, Bool.not_eq_true', Bool.not_eq_false', Bool.and_eq_false_iff, Bool.or_eq_false_iff, Int.not_lt, Int.not_le] at hb) | skip) <;> (first | (exfalso; omega) | skip)))
    | ((first | (refine CallVC.pv hP (isNaN_int _) rfl ?_) | (refine CallQ.pv hP (isNaN_int _) rfl ?_)); simp only [WS, JA, JB, wI64, wU64, Int.reduceAdd, Int.reduceSub, Int.reduceMul, Int.reduceLE, Int.reduceLT, Int.reduceNeg, Int.reduceToNat, Int.cast_ofNat_Int, sx0, sx1, sx2, sx3, sx4, sx5, sx6, sx7, sy0, sy1, List.filterMap_cons, JC, JD, WT, JE, JF, JG, JH, JI, JJ, JK, WU, JL, JM, JN, JO, WV, JP, JQ, WW, JR, JS, JT, JU, JV, JW, JX, JY, JZ, WA, WB, WC, WD, WE, WF, WG, WH, WI, WJ, WK, WL, WM, WN, true_and, and_true, reduceCtorEq, ↓reduceIte, ↓bifT, ↓bifF, ↓gifT, ↓gifF, eq_self, WO, WP, WQ, Nat.reduceLT, Nat.reduceLeDiff, Nat.reduceAdd, Nat.reduceSub, Nat.reduceMul, Nat.reduceMod, WR, Nat.reduceBEq, Int.reduceBEq, Int.reduceBNe, BEq.rfl, hnt, hT])
    | (refine SX.block ?_)
    | (refine and_mk ?_ ?_; (focus first | decide | omega | rfl | assumption | (simp only [List.length_append, List.length_cons, List.length_nil, B_size]; omega) | (simp; done)))
    | (refine And.intro ?_ ?_))
  all_goals (try refine Done.mk ?_)
  all_goals (refine ⟨?_, hbel⟩; congr 2; simp only [cmpI]; split <;> (try split) <;> omega)
theorem compare_u64 (a b : Int) (w : World) : Calls Tryd.prog 86 #[.int .u64 a, .int .u64 b] w fun e w' => e = .returned (.int .i64 (cmpI a b)) ∧ Below w.heap.size w w' := by
  refine calls_pureK (args := [.int .u64 a, .int .u64 b]) w Tryd.func86 rfl Tryd.ntmps86 (by simp) ?_
  intro X K hX hK
  have hnt : X.nt = 20 := by rw [hX]
  have hwi : X.wi = w := by rw [hX]
  have hP : X.P = Tryd.prog := by rw [hX]
  have hown : X.own = [] := by rw [hX]
  have hbl : X.base.length = 0 := by rw [hX]; rfl
  clear hX
  have hT : calleeOk X.P 133 = true := by rw [hP]; exact Ty.co133
  repeat' (first
    | (refine SX.seqK ?_; intro N hN)
    | ((first | (refine SX.ops ?_)); simp only [WS, JA, JB, wI64, wU64, Int.reduceAdd, Int.reduceSub, Int.reduceMul, Int.reduceLE, Int.reduceLT, Int.reduceNeg, Int.reduceToNat, Int.cast_ofNat_Int, sx0, sx1, sx2, sx3, sx4, sx5, sx6, sx7, sy0, sy1, List.filterMap_cons, JC, JD, WT, JE, JF, JG, JH, JI, JJ, JK, WU, JL, JM, JN, JO, WV, JP, JQ, WW, JR, JS, JT, JU, JV, JW, JX, JY, JZ, WA, WB, WC, WD, WE, WF, WG, WH, WI, WJ, WK, WL, WM, WN, true_and, and_true, reduceCtorEq, ↓reduceIte, ↓bifT, ↓bifF, ↓gifT, ↓gifF, eq_self, WO, WP, WQ, Nat.reduceLT, Nat.reduceLeDiff, Nat.reduceAdd, Nat.reduceSub, Nat.reduceMul, Nat.reduceMod, WR, Nat.reduceBEq, Int.reduceBEq, Int.reduceBNe, BEq.rfl, hnt, hT])
    | ((first | refine SX.skip ?_ | refine SX.exit ?_ | refine SX.label ?_); try simp only [WS, JA, JB, wI64, wU64, Int.reduceAdd, Int.reduceSub, Int.reduceMul, Int.reduceLE, Int.reduceLT, Int.reduceNeg, Int.reduceToNat, Int.cast_ofNat_Int, sx0, sx1, sx2, sx3, sx4, sx5, sx6, sx7, sy0, sy1, List.filterMap_cons, JC, JD, WT, JE, JF, JG, JH, JI, JJ, JK, WU, JL, JM, JN, JO, WV, JP, JQ, WW, JR, JS, JT, JU, JV, JW, JX, JY, JZ, WA, WB, WC, WD, WE, WF, WG, WH, WI, WJ, WK, WL, WM, WN, true_and, and_true, reduceCtorEq, ↓reduceIte, ↓bifT, ↓bifF, ↓gifT, ↓gifF, eq_self, WO, WP, WQ, Nat.reduceLT, Nat.reduceLeDiff, Nat.reduceAdd, Nat.reduceSub, Nat.reduceMul, Nat.reduceMod, WR, Nat.reduceBEq, Int.reduceBEq, Int.reduceBNe, BEq.rfl])
    | (refine SX.cond rfl (fun hb => ?_) (fun hb => ?_) <;> ((first | cases hb | (simp only [decide_eq_true_eq, decide_eq_false_iff_not, beq_iff_eq, beq_eq_false_iff_ne, bne_iff_ne, Bool.and_eq_true, Bool.or_eq_true, Bool.not_eq_true', Bool.not_eq_false', Bool.and_eq_false_iff, Bool.or_eq_false_iff, Int.not_lt, Int.not_le] at hb) | skip) <;> (first | (exfalso; omega) | skip)))
    | (refine SX.ret ?_; try simp only [WS, JA, JB, wI64, wU64, Int.reduceAdd, Int.reduceSub, Int.reduceMul, Int.reduceLE, Int.reduceLT, Int.reduceNeg, Int.reduceToNat, Int.cast_ofNat_Int, sx0, sx1, sx2, sx3, sx4, sx5, sx6, sx7, sy0, sy1, List.filterMap_cons, JC, JD, WT, JE, JF, JG, JH, JI, JJ, JK, WU, JL, JM, JN, JO, WV, JP, JQ, WW, JR, JS, JT, JU, JV, JW, JX, JY, JZ, WA, WB, WC, WD, WE, WF, WG, WH, WI, WJ, WK, WL, WM, WN, true_and, and_true, reduceCtorEq, ↓reduceIte, ↓bifT, ↓bifF, ↓gifT, ↓gifF, eq_self, WO, WP, WQ, Nat.reduceLT, Nat.reduceLeDiff, Nat.reduceAdd, Nat.reduceSub, Nat.reduceMul, Nat.reduceMod, WR, Nat.reduceBEq, Int.reduceBEq, Int.reduceBNe, BEq.rfl])
    | (refine hN _ ?_; clear hN N)
    | (refine hK _ _ (Fin.res rfl hown ?_); simp only [WS, JA, JB, wI64, wU64, Int.reduceAdd, Int.reduceSub, Int.reduceMul, Int.reduceLE, Int.reduceLT, Int.reduceNeg, Int.reduceToNat, Int.cast_ofNat_Int, sx0, sx1, sx2, sx3, sx4, sx5, sx6, sx7, sy0, sy1, List.filterMap_cons, JC, JD, WT, JE, JF, JG, JH, JI, JJ, JK, WU, JL, JM, JN, JO, WV, JP, JQ, WW, JR, JS, JT, JU, JV, JW, JX, JY, JZ, WA, WB, WC, WD, WE, WF, WG, WH, WI, WJ, WK, WL, WM, WN, true_and, and_true, reduceCtorEq, ↓reduceIte, ↓bifT, ↓bifF, ↓gifT, ↓gifF, eq_self, WO, WP, WQ, Nat.reduceLT, Nat.reduceLeDiff, Nat.reduceAdd, Nat.reduceSub, Nat.reduceMul, Nat.reduceMod, WR, Nat.reduceBEq, Int.reduceBEq, Int.reduceBNe, BEq.rfl, f_a, f_b, f_n, f_c, f_B, f_v, f_g, f_0, f_1, f_2, hT, hwi]; intro w' hbel; refine Done.out ?_)
    | (clear hN N; first | (refine hN _ ?_; clear hN N) | (clear hN N; first | (refine hN _ ?_; clear hN N) | (clear hN N; first | (refine hN _ ?_; clear hN N) | (clear hN N; first | (refine hN _ ?_; clear hN N) | (clear hN N; first | (refine hN _ ?_; clear hN N) | (refine hN _ ?_; clear hN N))))))
    | (refine bif2.mk (fun hb => ?_) (fun hb => ?_) <;> (try simp only [hb, WS, JA, JB, wI64, wU64, Int.reduceAdd, Int.reduceSub, Int.reduceMul, Int.reduceLE, Int.reduceLT, Int.reduceNeg, Int.reduceToNat, Int.cast_ofNat_Int, sx0, sx1, sx2, sx3, sx4, sx5, sx6, sx7, sy0, sy1, List.filterMap_cons, JC, JD, WT, JE, JF, JG, JH, JI, JJ, JK, WU, JL, JM, JN, JO, WV, JP, JQ, WW, JR, JS, JT, JU, JV, JW, JX, JY, JZ, WA, WB, WC, WD, WE, WF, WG, WH, WI, WJ, WK, WL, WM, WN, true_and, and_true, reduceCtorEq, ↓reduceIte, ↓bifT, ↓bifF, ↓gifT, ↓gifF, eq_self, WO, WP, WQ, Nat.reduceLT, Nat.reduceLeDiff, Nat.reduceAdd, Nat.reduceSub, Nat.reduceMul, Nat.reduceMod, WR, Nat.reduceBEq, Int.reduceBEq, Int.reduceBNe, BEq.rfl, hnt, hT]) <;> ((first | cases hb | (simp only [decide_eq_true_eq, decide_eq_false_iff_not, beq_iff_eq, beq_eq_false_iff_ne, bne_iff_ne, Bool.and_eq_true, Bool.or_eq_true, Bool.not_eq_true', Bool.not_eq_false', Bool.and_eq_false_iff, Bool.or_eq_false_iff, Int.not_lt, Int.not_le] at hb) | skip) <;> (first | (exfalso; omega) | skip)))
    | ((first | (refine CallVC.pv hP (isNaN_u64 _) rfl ?_) | (refine CallQ.pv hP (isNaN_u64 _) rfl ?_)); simp only [WS, JA, JB, wI64, wU64, Int.reduceAdd, Int.reduceSub, Int.reduceMul, Int.reduceLE, Int.reduceLT, Int.reduceNeg, Int.reduceToNat, Int.cast_ofNat_Int, sx0, sx1, sx2, sx3, sx4, sx5, sx6, sx7, sy0, sy1, List.filterMap_cons, JC, JD, WT, JE, JF, JG, JH, JI, JJ, JK, WU, JL, JM, JN, JO, WV, JP, JQ, WW, JR, JS, JT, JU, JV, JW, JX, JY, JZ, WA, WB, WC, WD, WE, WF, WG, WH, WI, WJ, WK, WL, WM, WN, true_and, and_true, reduceCtorEq, ↓reduceIte, ↓bifT, ↓bifF, ↓gifT, ↓gifF, eq_self, WO, WP, WQ, Nat.reduceLT, Nat.reduceLeDiff, Nat.reduceAdd, Nat.reduceSub, Nat.reduceMul, Nat.reduceMod, WR, Nat.reduceBEq, Int.reduceBEq, Int.reduceBNe, BEq.rfl, hnt, hT])
    | (refine SX.block ?_)
    | (refine and_mk ?_ ?_; (focus first | decide | omega | rfl | assumption | (simp only [List.length_append, List.length_cons, List.length_nil, B_size]; omega) | (simp; done)))
    | (refine And.intro ?_ ?_))
  all_goals (try refine Done.mk ?_)
  all_goals (refine ⟨?_, hbel⟩; congr 2; simp only [cmpI]; split <;> (try split) <;> omega)
theorem compare_str (a b : List UInt8) (w : World) : Calls Tryd.prog 121 #[.string (B a), .string (B b)] w fun e w' => e = .returned (.int .i64 (cmpS a b)) ∧ Below w.heap.size w w' := by
  refine calls_pureK (args := [.string (B a), .string (B b)]) w Tryd.func121 rfl Tryd.ntmps121 (by simp) ?_
  intro X K hX hK
  have hnt : X.nt = 20 := by rw [hX]
  have hwi : X.wi = w := by rw [hX]
  have hP : X.P = Tryd.prog := by rw [hX]
  have hown : X.own = [] := by rw [hX]
  have hbl : X.base.length = 0 := by rw [hX]; rfl
  clear hX
  have hT : calleeOk X.P 149 = true := by rw [hP]; exact Ty.co149
  repeat' (first
    | (refine SX.seqK ?_; intro N hN)
    | ((first | (refine SX.ops ?_)); simp only [WS, JA, JB, wI64, wU64, Int.reduceAdd, Int.reduceSub, Int.reduceMul, Int.reduceLE, Int.reduceLT, Int.reduceNeg, Int.reduceToNat, Int.cast_ofNat_Int, sx0, sx1, sx2, sx3, sx4, sx5, sx6, sx7, sy0, sy1, List.filterMap_cons, JC, JD, WT, JE, JF, JG, JH, JI, JJ, JK, WU, JL, JM, JN, JO, WV, JP, JQ, WW, JR, JS, JT, JU, JV, JW, JX, JY, JZ, WA, WB, WC, WD, WE, WF, WG, WH, WI, WJ, WK, WL, WM, WN, true_and, and_true, reduceCtorEq, ↓reduceIte, ↓bifT, ↓bifF, ↓gifT, ↓gifF, eq_self, WO, WP, WQ, Nat.reduceLT, Nat.reduceLeDiff, Nat.reduceAdd, Nat.reduceSub, Nat.reduceMul, Nat.reduceMod, WR, Nat.reduceBEq, Int.reduceBEq, Int.reduceBNe, BEq.rfl, hnt, hT, gtr_eq])
    | ((first | refine SX.skip ?_ | refine SX.exit ?_ | refine SX.label ?_); try simp only [WS, JA, JB, wI64, wU64, Int.reduceAdd, Int.reduceSub, Int.reduceMul, Int.reduceLE, Int.reduceLT, Int.reduceNeg, Int.reduceToNat, Int.cast_ofNat_Int, sx0, sx1, sx2, sx3, sx4, sx5, sx6, sx7, sy0, sy1, List.filterMap_cons, JC, JD, WT, JE, JF, JG, JH, JI, JJ, JK, WU, JL, JM, JN, JO, WV, JP, JQ, WW, JR, JS, JT, JU, JV, JW, JX, JY, JZ, WA, WB, WC, WD, WE, WF, WG, WH, WI, WJ, WK, WL, WM, WN, true_and, and_true, reduceCtorEq, ↓reduceIte, ↓bifT, ↓bifF, ↓gifT, ↓gifF, eq_self, WO, WP, WQ, Nat.reduceLT, Nat.reduceLeDiff, Nat.reduceAdd, Nat.reduceSub, Nat.reduceMul, Nat.reduceMod, WR, Nat.reduceBEq, Int.reduceBEq, Int.reduceBNe, BEq.rfl])
    | (refine SX.cond rfl (fun hb => ?_) (fun hb => ?_) <;> ((first | cases hb | (simp only [decide_eq_true_eq, decide_eq_false_iff_not, beq_iff_eq, beq_eq_false_iff_ne, bne_iff_ne, Bool.and_eq_true, Bool.or_eq_true, Bool.not_eq_true', Bool.not_eq_false', Bool.and_eq_false_iff, Bool.or_eq_false_iff, Int.not_lt, Int.not_le] at hb) | skip) <;> (first | (exfalso; omega) | skip)))
    | (refine SX.ret ?_; try simp only [WS, JA, JB, wI64, wU64, Int.reduceAdd, Int.reduceSub, Int.reduceMul, Int.reduceLE, Int.reduceLT, Int.reduceNeg, Int.reduceToNat, Int.cast_ofNat_Int, sx0, sx1, sx2, sx3, sx4, sx5, sx6, sx7, sy0, sy1, List.filterMap_cons, JC, JD, WT, JE, JF, JG, JH, JI, JJ, JK, WU, JL, JM, JN, JO, WV, JP, JQ, WW, JR, JS, JT, JU, JV, JW, JX, JY, JZ, WA, WB, WC, WD, WE, WF, WG, WH, WI, WJ, WK, WL, WM, WN, true_and, and_true, reduceCtorEq, ↓reduceIte, ↓bifT, ↓bifF, ↓gifT, ↓gifF, eq_self, WO, WP, WQ, Nat.reduceLT, Nat.reduceLeDiff, Nat.reduceAdd, Nat.reduceSub, Nat.reduceMul, Nat.reduceMod, WR, Nat.reduceBEq, Int.reduceBEq, Int.reduceBNe, BEq.rfl])
    | (refine hN _ ?_; clear hN N)
    | (refine hK _ _ (Fin.res rfl hown ?_); simp only [WS, JA, JB, wI64, wU64, Int.reduceAdd, Int.reduceSub, Int.reduceMul, Int.reduceLE, Int.reduceLT, Int.reduceNeg, Int.reduceToNat, Int.cast_ofNat_Int, sx0, sx1, sx2, sx3, sx4, sx5, sx6, sx7, sy0, sy1, List.filterMap_cons, JC, JD, WT, JE, JF, JG, JH, JI, JJ, JK, WU, JL, JM, JN, JO, WV, JP, JQ, WW, JR, JS, JT, JU, JV, JW, JX, JY, JZ, WA, WB, WC, WD, WE, WF, WG, WH, WI, WJ, WK, WL, WM, WN, true_and, and_true, reduceCtorEq, ↓reduceIte, ↓bifT, ↓bifF, ↓gifT, ↓gifF, eq_self, WO, WP, WQ, Nat.reduceLT, Nat.reduceLeDiff, Nat.reduceAdd, Nat.reduceSub, Nat.reduceMul, Nat.reduceMod, WR, Nat.reduceBEq, Int.reduceBEq, Int.reduceBNe, BEq.rfl, f_a, f_b, f_n, f_c, f_B, f_v, f_g, f_0, f_1, f_2, hT, hwi, gtr_eq]; intro w' hbel; refine Done.out ?_)
    | (clear hN N; first | (refine hN _ ?_; clear hN N) | (clear hN N; first | (refine hN _ ?_; clear hN N) | (clear hN N; first | (refine hN _ ?_; clear hN N) | (clear hN N; first | (refine hN _ ?_; clear hN N) | (clear hN N; first | (refine hN _ ?_; clear hN N) | (refine hN _ ?_; clear hN N))))))
    | (refine bif2.mk (fun hb => ?_) (fun hb => ?_) <;> (try simp only [hb, WS, JA, JB, wI64, wU64, Int.reduceAdd, Int.reduceSub, Int.reduceMul, Int.reduceLE, Int.reduceLT, Int.reduceNeg, Int.reduceToNat, Int.cast_ofNat_Int, sx0, sx1, sx2, sx3, sx4, sx5, sx6, sx7, sy0, sy1, List.filterMap_cons, JC, JD, WT, JE, JF, JG, JH, JI, JJ, JK, WU, JL, JM, JN, JO, WV, JP, JQ, WW, JR, JS, JT, JU, JV, JW, JX, JY, JZ, WA, WB, WC, WD, WE, WF, WG, WH, WI, WJ, WK, WL, WM, WN, true_and, and_true, reduceCtorEq, ↓reduceIte, ↓bifT, ↓bifF, ↓gifT, ↓gifF, eq_self, WO, WP, WQ, Nat.reduceLT, Nat.reduceLeDiff, Nat.reduceAdd, Nat.reduceSub, Nat.reduceMul, Nat.reduceMod, WR, Nat.reduceBEq, Int.reduceBEq, Int.reduceBNe, BEq.rfl, hnt, hT, gtr_eq]) <;> ((first | cases hb | (simp only [decide_eq_true_eq, decide_eq_false_iff_not, beq_iff_eq, beq_eq_false_iff_ne, bne_iff_ne, Bool.and_eq_true, Bool.or_eq_true, Bool.not_eq_true', Bool.not_eq_false', Bool.and_eq_false_iff, Bool.or_eq_false_iff, Int.not_lt, Int.not_le] at hb) | skip) <;> (first | (exfalso; omega) | skip)))
    | ((first | (refine CallVC.pv hP (isNaN_str _) rfl ?_) | (refine CallQ.pv hP (isNaN_str _) rfl ?_)); simp only [WS, JA, JB, wI64, wU64, Int.reduceAdd, Int.reduceSub, Int.reduceMul, Int.reduceLE, Int.reduceLT, Int.reduceNeg, Int.reduceToNat, Int.cast_ofNat_Int, sx0, sx1, sx2, sx3, sx4, sx5, sx6, sx7, sy0, sy1, List.filterMap_cons, JC, JD, WT, JE, JF, JG, JH, JI, JJ, JK, WU, JL, JM, JN, JO, WV, JP, JQ, WW, JR, JS, JT, JU, JV, JW, JX, JY, JZ, WA, WB, WC, WD, WE, WF, WG, WH, WI, WJ, WK, WL, WM, WN, true_and, and_true, reduceCtorEq, ↓reduceIte, ↓bifT, ↓bifF, ↓gifT, ↓gifF, eq_self, WO, WP, WQ, Nat.reduceLT, Nat.reduceLeDiff, Nat.reduceAdd, Nat.reduceSub, Nat.reduceMul, Nat.reduceMod, WR, Nat.reduceBEq, Int.reduceBEq, Int.reduceBNe, BEq.rfl, hnt, hT, gtr_eq])
    | (refine SX.block ?_)
    | (refine and_mk ?_ ?_; (focus first | decide | omega | rfl | assumption | (simp only [List.length_append, List.length_cons, List.length_nil, B_size]; omega) | (simp; done)))
    | (refine And.intro ?_ ?_))
  all_goals (try refine Done.mk ?_)
  all_goals (refine ⟨?_, hbel⟩; congr 2; simp_all [cmpS])
end Go.Proofs.YtbdacbcpniegiaaDoor
namespace Go.Proofs.YtbdacbcpniegiaaDoor
open Go Go.RowKit Go.Proofs Go.Sx
set_option maxHeartbeats 4000000
set_option maxRecDepth 100000
set_option linter.unusedSimpArgs false
set_option linter.unusedVariables false
def cmpKey (a : Int) (s : List UInt8) (b : Int) (t : List UInt8) : Int := if cmpI a b ≠ 0 then cmpI a b else cmpS s t
theorem order_any (a b : Int) (s t : List UInt8) (w : World) : Calls Tryd.prog 63 #[.agg #[.int .i64 a, .string (B s)], .agg #[.int .i64 b, .string (B t)]] w fun e w' => e = .returned (.int .i64 (cmpKey a s b t)) ∧ Below w.heap.size w w' := by
  refine calls_pureK (args := [.agg #[.int .i64 a, .string (B s)], .agg #[.int .i64 b, .string (B t)]]) w Tryd.func63 rfl Tryd.ntmps63 (by simp) ?_
  intro X K hX hK
  have hnt : X.nt = 17 := by rw [hX]
  have hwi : X.wi = w := by rw [hX]
  have hP : X.P = Tryd.prog := by rw [hX]
  have hown : X.own = [] := by rw [hX]
  have hbl : X.base.length = 0 := by rw [hX]; rfl
  clear hX
  have hT : fieldOff X.P 26 0 = some 0 ∧ aggOf X.P 3 = some false ∧ szOf X.P 3 = some 1 ∧ calleeOk X.P 120 = true ∧ fieldOff X.P 26 1 = some 1 ∧ aggOf X.P 9 = some false ∧ szOf X.P 9 = some 1 ∧ calleeOk X.P 121 = true ∧ elemSz X.P 51 = some (3, 1) ∧ zeroCells X.P 3 = some [(Value.int IntKind.i64 0)] ∧ calleeOk X.P 119 = true := by rw [hP]; exact ⟨Ty.fo26_0, Ty.ag3, Ty.sz3, Ty.co120, Ty.fo26_1, Ty.ag9, Ty.sz9, Ty.co121, Ty.el51, Ty.ze3, Ty.co119⟩
  have hnt1 := True.intro; have hT1 := True.intro; have hU1P := True.intro
  repeat' (first
    | (refine SX.seqK ?_; intro N hN)
    | ((first | (refine SX.ops ?_) | (refine SX.planT (id := 1) [.q [(0, [2]), (1, [5]), (2, [3]), (3, [7]), (4, [6, 8]), (5, [2]), (6, [10]), (7, [3]), (8, [12]), (9, [11, 13])] none, .s 10, .s 11, .s 12] ?_ ?_ ?_; (focus first | (rw [hP]; kernel_rfl) | (rw [hU1P, hP]; kernel_rfl)); (focus kernel_rfl))); simp only [WS, JA, JB, wI64, wU64, Int.reduceAdd, Int.reduceSub, Int.reduceMul, Int.reduceLE, Int.reduceLT, Int.reduceNeg, Int.reduceToNat, Int.cast_ofNat_Int, sx0, sx1, sx2, sx3, sx4, sx5, sx6, sx7, sy0, sy1, List.filterMap_cons, JC, JD, WT, JE, JF, JG, JH, JI, JJ, JK, WU, JL, JM, JN, JO, WV, JP, JQ, WW, JR, JS, JT, JU, JV, JW, JX, JY, JZ, WA, WB, WC, WD, WE, WF, WG, WH, WI, WJ, WK, WL, WM, WN, true_and, and_true, reduceCtorEq, ↓reduceIte, ↓bifT, ↓bifF, ↓gifT, ↓gifF, eq_self, WO, WP, WQ, Nat.reduceLT, Nat.reduceLeDiff, Nat.reduceAdd, Nat.reduceSub, Nat.reduceMul, Nat.reduceMod, WR, Nat.reduceBEq, Int.reduceBEq, Int.reduceBNe, BEq.rfl, hnt, hT, hnt1, hT1, hU1P])
    | ((first | refine SX.skip ?_ | refine SX.exit ?_ | refine SX.label ?_); try simp only [WS, JA, JB, wI64, wU64, Int.reduceAdd, Int.reduceSub, Int.reduceMul, Int.reduceLE, Int.reduceLT, Int.reduceNeg, Int.reduceToNat, Int.cast_ofNat_Int, sx0, sx1, sx2, sx3, sx4, sx5, sx6, sx7, sy0, sy1, List.filterMap_cons, JC, JD, WT, JE, JF, JG, JH, JI, JJ, JK, WU, JL, JM, JN, JO, WV, JP, JQ, WW, JR, JS, JT, JU, JV, JW, JX, JY, JZ, WA, WB, WC, WD, WE, WF, WG, WH, WI, WJ, WK, WL, WM, WN, true_and, and_true, reduceCtorEq, ↓reduceIte, ↓bifT, ↓bifF, ↓gifT, ↓gifF, eq_self, WO, WP, WQ, Nat.reduceLT, Nat.reduceLeDiff, Nat.reduceAdd, Nat.reduceSub, Nat.reduceMul, Nat.reduceMod, WR, Nat.reduceBEq, Int.reduceBEq, Int.reduceBNe, BEq.rfl])
    | (refine SX.cond rfl (fun hb => ?_) (fun hb => ?_) <;> ((first | cases hb | (simp only [decide_eq_true_eq, decide_eq_false_iff_not, beq_iff_eq, beq_eq_false_iff_ne, bne_iff_ne, Bool.and_eq_true, Bool.or_eq_true, Bool.not_eq_true', Bool.not_eq_false', Bool.and_eq_false_iff, Bool.or_eq_false_iff, Int.not_lt, Int.not_le] at hb) | skip) <;> (first | (exfalso; omega) | skip)))
    | (refine SX.ret ?_; try simp only [WS, JA, JB, wI64, wU64, Int.reduceAdd, Int.reduceSub, Int.reduceMul, Int.reduceLE, Int.reduceLT, Int.reduceNeg, Int.reduceToNat, Int.cast_ofNat_Int, sx0, sx1, sx2, sx3, sx4, sx5, sx6, sx7, sy0, sy1, List.filterMap_cons, JC, JD, WT, JE, JF, JG, JH, JI, JJ, JK, WU, JL, JM, JN, JO, WV, JP, JQ, WW, JR, JS, JT, JU, JV, JW, JX, JY, JZ, WA, WB, WC, WD, WE, WF, WG, WH, WI, WJ, WK, WL, WM, WN, true_and, and_true, reduceCtorEq, ↓reduceIte, ↓bifT, ↓bifF, ↓gifT, ↓gifF, eq_self, WO, WP, WQ, Nat.reduceLT, Nat.reduceLeDiff, Nat.reduceAdd, Nat.reduceSub, Nat.reduceMul, Nat.reduceMod, WR, Nat.reduceBEq, Int.reduceBEq, Int.reduceBNe, BEq.rfl])
    | (refine hN _ ?_; clear hN N)
    | ((first | refine hK1 _ _ (FinI.ret3 ?_) | refine hK1 _ _ (FinI.nrm3 ?_)); (repeat (clear hN N)); clear hK1 K1; simp only [WS, JA, JB, wI64, wU64, Int.reduceAdd, Int.reduceSub, Int.reduceMul, Int.reduceLE, Int.reduceLT, Int.reduceNeg, Int.reduceToNat, Int.cast_ofNat_Int, sx0, sx1, sx2, sx3, sx4, sx5, sx6, sx7, sy0, sy1, List.filterMap_cons, JC, JD, WT, JE, JF, JG, JH, JI, JJ, JK, WU, JL, JM, JN, JO, WV, JP, JQ, WW, JR, JS, JT, JU, JV, JW, JX, JY, JZ, WA, WB, WC, WD, WE, WF, WG, WH, WI, WJ, WK, WL, WM, WN, true_and, and_true, reduceCtorEq, ↓reduceIte, ↓bifT, ↓bifF, ↓gifT, ↓gifF, eq_self, WO, WP, WQ, Nat.reduceLT, Nat.reduceLeDiff, Nat.reduceAdd, Nat.reduceSub, Nat.reduceMul, Nat.reduceMod, WR, Nat.reduceBEq, Int.reduceBEq, Int.reduceBNe, BEq.rfl, finP_s, hnt, hT, hnt1, hT1, hU1P])
    | (refine hK _ _ (Fin.res rfl hown ?_); simp only [WS, JA, JB, wI64, wU64, Int.reduceAdd, Int.reduceSub, Int.reduceMul, Int.reduceLE, Int.reduceLT, Int.reduceNeg, Int.reduceToNat, Int.cast_ofNat_Int, sx0, sx1, sx2, sx3, sx4, sx5, sx6, sx7, sy0, sy1, List.filterMap_cons, JC, JD, WT, JE, JF, JG, JH, JI, JJ, JK, WU, JL, JM, JN, JO, WV, JP, JQ, WW, JR, JS, JT, JU, JV, JW, JX, JY, JZ, WA, WB, WC, WD, WE, WF, WG, WH, WI, WJ, WK, WL, WM, WN, true_and, and_true, reduceCtorEq, ↓reduceIte, ↓bifT, ↓bifF, ↓gifT, ↓gifF, eq_self, WO, WP, WQ, Nat.reduceLT, Nat.reduceLeDiff, Nat.reduceAdd, Nat.reduceSub, Nat.reduceMul, Nat.reduceMod, WR, Nat.reduceBEq, Int.reduceBEq, Int.reduceBNe, BEq.rfl, f_a, f_b, f_n, f_c, f_B, f_v, f_g, f_0, f_1, f_2, hT, hwi, hnt1, hT1, hU1P]; intro w' hbel; refine Done.out ?_)
    | (clear hN N; first | (refine hN _ ?_; clear hN N) | (clear hN N; first | (refine hN _ ?_; clear hN N) | (clear hN N; first | (refine hN _ ?_; clear hN N) | (clear hN N; first | (refine hN _ ?_; clear hN N) | (clear hN N; first | (refine hN _ ?_; clear hN N) | (refine hN _ ?_; clear hN N))))))
    | (refine bif2.mk (fun hb => ?_) (fun hb => ?_) <;> (try simp only [hb, WS, JA, JB, wI64, wU64, Int.reduceAdd, Int.reduceSub, Int.reduceMul, Int.reduceLE, Int.reduceLT, Int.reduceNeg, Int.reduceToNat, Int.cast_ofNat_Int, sx0, sx1, sx2, sx3, sx4, sx5, sx6, sx7, sy0, sy1, List.filterMap_cons, JC, JD, WT, JE, JF, JG, JH, JI, JJ, JK, WU, JL, JM, JN, JO, WV, JP, JQ, WW, JR, JS, JT, JU, JV, JW, JX, JY, JZ, WA, WB, WC, WD, WE, WF, WG, WH, WI, WJ, WK, WL, WM, WN, true_and, and_true, reduceCtorEq, ↓reduceIte, ↓bifT, ↓bifF, ↓gifT, ↓gifF, eq_self, WO, WP, WQ, Nat.reduceLT, Nat.reduceLeDiff, Nat.reduceAdd, Nat.reduceSub, Nat.reduceMul, Nat.reduceMod, WR, Nat.reduceBEq, Int.reduceBEq, Int.reduceBNe, BEq.rfl, hnt, hT, hnt1, hT1, hU1P]) <;> ((first | cases hb | (simp only [decide_eq_true_eq, decide_eq_false_iff_not, beq_iff_eq, beq_eq_false_iff_ne, bne_iff_ne, Bool.and_eq_true, Bool.or_eq_true, Bool.not_eq_true', Bool.not_eq_false', Bool.and_eq_false_iff, Bool.or_eq_false_iff, Int.not_lt, Int.not_le] at hb) | skip) <;> (first | (exfalso; omega) | skip)))
    | ((first | (refine CallVC.pv hP (compare_int _ _) rfl ?_) | (refine CallQ.pv hP (compare_int _ _) rfl ?_) | (refine CallVC.pv hP (compare_str _ _) rfl ?_) | (refine CallQ.pv hP (compare_str _ _) rfl ?_)); simp only [WS, JA, JB, wI64, wU64, Int.reduceAdd, Int.reduceSub, Int.reduceMul, Int.reduceLE, Int.reduceLT, Int.reduceNeg, Int.reduceToNat, Int.cast_ofNat_Int, sx0, sx1, sx2, sx3, sx4, sx5, sx6, sx7, sy0, sy1, List.filterMap_cons, JC, JD, WT, JE, JF, JG, JH, JI, JJ, JK, WU, JL, JM, JN, JO, WV, JP, JQ, WW, JR, JS, JT, JU, JV, JW, JX, JY, JZ, WA, WB, WC, WD, WE, WF, WG, WH, WI, WJ, WK, WL, WM, WN, true_and, and_true, reduceCtorEq, ↓reduceIte, ↓bifT, ↓bifF, ↓gifT, ↓gifF, eq_self, WO, WP, WQ, Nat.reduceLT, Nat.reduceLeDiff, Nat.reduceAdd, Nat.reduceSub, Nat.reduceMul, Nat.reduceMod, WR, Nat.reduceBEq, Int.reduceBEq, Int.reduceBNe, BEq.rfl, hnt, hT, hnt1, hT1, hU1P])
    | (refine CallVC.inline (f := 119) ?_ rfl Tryd.ntmps119 rfl ?_ ?_; (focus rw [hP]; exact Tryd.func119); (focus simp); have hT1 : X.P.underlying 51 = some (TypeDesc.slice 3) ∧ elemSz X.P 51 = some (3, 1) ∧ aggOf X.P 3 = some false ∧ szOf X.P 3 = some 1 := (by rw [hP]; exact ⟨Tryd.underlying51, Ty.el51, Ty.ag3, Ty.sz3⟩); intro X1 K1 hU1 hnt1 hbl1 hK1; have hU1P := hU1.P; simp only [WS, JA, JB, wI64, wU64, Int.reduceAdd, Int.reduceSub, Int.reduceMul, Int.reduceLE, Int.reduceLT, Int.reduceNeg, Int.reduceToNat, Int.cast_ofNat_Int, sx0, sx1, sx2, sx3, sx4, sx5, sx6, sx7, sy0, sy1, List.filterMap_cons, JC, JD, WT, JE, JF, JG, JH, JI, JJ, JK, WU, JL, JM, JN, JO, WV, JP, JQ, WW, JR, JS, JT, JU, JV, JW, JX, JY, JZ, WA, WB, WC, WD, WE, WF, WG, WH, WI, WJ, WK, WL, WM, WN, true_and, and_true, reduceCtorEq, ↓reduceIte, ↓bifT, ↓bifF, ↓gifT, ↓gifF, eq_self, WO, WP, WQ, Nat.reduceLT, Nat.reduceLeDiff, Nat.reduceAdd, Nat.reduceSub, Nat.reduceMul, Nat.reduceMod, WR, Nat.reduceBEq, Int.reduceBEq, Int.reduceBNe, BEq.rfl] at hbl1 ⊢)
    | (refine SX.loopN 3 ?_)
    | (refine SXr.stepK ?_; intro N hN)
    | ((first | (refine CallVC.pv (hU1P.trans hP) (compare_int _ _) rfl ?_) | (refine CallQ.pv (hU1P.trans hP) (compare_int _ _) rfl ?_) | (refine CallVC.pv (hU1P.trans hP) (compare_str _ _) rfl ?_) | (refine CallQ.pv (hU1P.trans hP) (compare_str _ _) rfl ?_)); simp only [WS, JA, JB, wI64, wU64, Int.reduceAdd, Int.reduceSub, Int.reduceMul, Int.reduceLE, Int.reduceLT, Int.reduceNeg, Int.reduceToNat, Int.cast_ofNat_Int, sx0, sx1, sx2, sx3, sx4, sx5, sx6, sx7, sy0, sy1, List.filterMap_cons, JC, JD, WT, JE, JF, JG, JH, JI, JJ, JK, WU, JL, JM, JN, JO, WV, JP, JQ, WW, JR, JS, JT, JU, JV, JW, JX, JY, JZ, WA, WB, WC, WD, WE, WF, WG, WH, WI, WJ, WK, WL, WM, WN, true_and, and_true, reduceCtorEq, ↓reduceIte, ↓bifT, ↓bifF, ↓gifT, ↓gifF, eq_self, WO, WP, WQ, Nat.reduceLT, Nat.reduceLeDiff, Nat.reduceAdd, Nat.reduceSub, Nat.reduceMul, Nat.reduceMod, WR, Nat.reduceBEq, Int.reduceBEq, Int.reduceBNe, BEq.rfl, hnt, hT, hnt1, hT1, hU1P])
    | (refine SX.block ?_)
    | (refine and_mk ?_ ?_; (focus first | decide | omega | rfl | assumption | (simp only [List.length_append, List.length_cons, List.length_nil, B_size]; omega) | (simp; done)))
    | (refine And.intro ?_ ?_))
  all_goals (try refine Done.mk ?_)
  all_goals (refine ⟨?_, hbel⟩; simp_all [cmpKey])
end Go.Proofs.YtbdacbcpniegiaaDoor
namespace Go.Proofs
open Go.Shelf
def Tryd.lays160_ren : Go.Shelf.Ren := ⟨fun | 160 => 140 | 232 => 156 | 231 => 155 | 227 => 157 | 234 => 159 | 233 => 158 | 236 => 161 | 235 => 160 | 228 => 168 | 271 => 171 | 151 => 170 | 197 => 169 | 120 => 176 | 152 => 175 | 260 => 174 | 137 => 177 | 119 => 178 | 224 => 179 | 225 => 180 | 217 => 181 | 266 => 182 | n => n, fun | 9 => 9 | 4 => 4 | 3 => 3 | 5 => 5 | 117 => 221 | 116 => 220 | 0 => 0 | 124 => 224 | 21 => 21 | 105 => 241 | 46 => 164 | 119 => 246 | 139 => 249 | 138 => 248 | n => n, fun | 3 => 4 | 4 => 5 | n => n⟩
theorem Tryd.lays160 : Lays.n160 Tryd.prog Tryd.lays160_ren := {
  mixed := by kernel_rfl,
  f119 := Tryd.func178.trans (congrArg some (by kernel_rfl)),
  f120 := Tryd.func176.trans (congrArg some (by kernel_rfl)),
  f137 := Tryd.func177.trans (congrArg some (by kernel_rfl)),
  f151 := Tryd.func170.trans (congrArg some (by kernel_rfl)),
  f152 := Tryd.func175.trans (congrArg some (by kernel_rfl)),
  f160 := Tryd.func140.trans (congrArg some (by kernel_rfl)),
  f197 := Tryd.func169.trans (congrArg some (by kernel_rfl)),
  f217 := Tryd.func181.trans (congrArg some (by kernel_rfl)),
  f224 := Tryd.func179.trans (congrArg some (by kernel_rfl)),
  f225 := Tryd.func180.trans (congrArg some (by kernel_rfl)),
  f227 := Tryd.func157.trans (congrArg some (by kernel_rfl)),
  f228 := Tryd.func168.trans (congrArg some (by kernel_rfl)),
  f231 := Tryd.func155.trans (congrArg some (by kernel_rfl)),
  f232 := Tryd.func156.trans (congrArg some (by kernel_rfl)),
  f233 := Tryd.func158.trans (congrArg some (by kernel_rfl)),
  f234 := Tryd.func159.trans (congrArg some (by kernel_rfl)),
  f235 := Tryd.func160.trans (congrArg some (by kernel_rfl)),
  f236 := Tryd.func161.trans (congrArg some (by kernel_rfl)),
  f260 := Tryd.func174.trans (congrArg some (by kernel_rfl)),
  f266 := Tryd.func182.trans (congrArg some (by kernel_rfl)),
  f271 := Tryd.func171.trans (congrArg some (by kernel_rfl)),
  t0 := Tryd.underlying0,
  a0 := Tryd.isAgg0,
  z0 := Tryd.sizeOf0,
  v0 := Tryd.zeroValue0,
  t3 := Tryd.underlying3,
  a3 := Tryd.isAgg3,
  z3 := Tryd.sizeOf3,
  v3 := Tryd.zeroValue3,
  t4 := Tryd.underlying4,
  a4 := Tryd.isAgg4,
  z4 := Tryd.sizeOf4,
  v4 := Tryd.zeroValue4,
  t5 := Tryd.underlying5,
  a5 := Tryd.isAgg5,
  z5 := Tryd.sizeOf5,
  v5 := Tryd.zeroValue5,
  t9 := Tryd.underlying9,
  a9 := Tryd.isAgg9,
  z9 := Tryd.sizeOf9,
  v9 := Tryd.zeroValue9,
  t21 := Tryd.underlying21,
  a21 := Tryd.isAgg21,
  z21 := Tryd.sizeOf21,
  v21 := Tryd.zeroValue21,
  t46 := Tryd.underlying164,
  a46 := Tryd.isAgg164,
  z46 := Tryd.sizeOf164,
  v46 := Tryd.zeroValue164,
  t105 := Tryd.underlying241,
  a105 := Tryd.isAgg241,
  z105 := Tryd.sizeOf241,
  v105 := Tryd.zeroValue241,
  t116 := Tryd.underlying220,
  a116 := Tryd.isAgg220,
  z116 := Tryd.sizeOf220,
  t117 := Tryd.underlying221,
  a117 := Tryd.isAgg221,
  z117 := Tryd.sizeOf221,
  v117 := Tryd.zeroValue221,
  t119 := Tryd.underlying246,
  a119 := Tryd.isAgg246,
  z119 := Tryd.sizeOf246,
  t124 := Tryd.underlying224,
  a124 := Tryd.isAgg224,
  z124 := Tryd.sizeOf224,
  v124 := Tryd.zeroValue224,
  t138 := Tryd.underlying248,
  a138 := Tryd.isAgg248,
  z138 := Tryd.sizeOf248,
  v138 := Tryd.zeroValue248,
  t139 := Tryd.underlying249,
  a139 := Tryd.isAgg249,
  z139 := Tryd.sizeOf249,
  v139 := Tryd.zeroValue249,
  g3 := by kernel_rfl,
  g4 := by kernel_rfl }
end Go.Proofs
namespace Go.Proofs.YtbdacbcpniegiaaDoor
open Go Go.RowKit Go.Proofs Go.Sx
def nameCs : List UInt8 := [97, 98, 99, 100, 101, 102, 103, 104, 105, 106, 107, 108, 109, 110, 111, 112, 113, 114, 115, 116, 117, 118, 119, 120, 121, 122, 48, 49, 50, 51, 52, 53, 54, 55, 56, 57, 45, 46, 47]
theorem trim_any (s : List UInt8) (hs : s.length ≤ 9223372036854775807) (w : World) : Calls Tryd.prog 140 #[.string (B s), .string (B nameCs)] w fun e w' => e = .returned (.string (B (Lib.trimS s nameCs))) ∧ Below w.heap.size w w' := by
  have h := Any.strings_Trim_laid Tryd.lays160 (by kernel_rfl) (B s) (B nameCs) w (by rw [B_size]; exact hs) (by decide) (ascii_of_all (by decide))
  exact h
end Go.Proofs.YtbdacbcpniegiaaDoor
namespace Go.Proofs.YtbdacbcpniegiaaDoor
open Go Go.RowKit Go.Proofs Go.Sx
set_option maxHeartbeats 4000000
set_option maxRecDepth 100000
set_option linter.unusedSimpArgs false
set_option linter.unusedVariables false
def nameB (s : List UInt8) : Bool := !(s == []) && decide ((s.length : Int) ≤ 64) && (Lib.trimS s nameCs == [])
theorem name_any (s : List UInt8) (hs : s.length ≤ 4611686018427387904) (w : World) : Calls Tryd.prog 101 #[.string (B s)] w fun e w' => e = .returned (.bool (nameB s)) ∧ Below w.heap.size w w' := by
  refine calls_pureK (args := [.string (B s)]) w Tryd.func101 rfl Tryd.ntmps101 (by simp) ?_
  intro X K hX hK
  have hnt : X.nt = 15 := by rw [hX]
  have hwi : X.wi = w := by rw [hX]
  have hP : X.P = Tryd.prog := by rw [hX]
  have hown : X.own = [] := by rw [hX]
  have hbl : X.base.length = 0 := by rw [hX]; rfl
  clear hX
  have hT : X.P.underlying 9 = some TypeDesc.string ∧ calleeOk X.P 140 = true := by rw [hP]; exact ⟨Tryd.underlying9, Ty.co140⟩
  repeat' (first
    | (refine SX.seqK ?_; intro N hN)
    | ((first | (refine SX.ops ?_)); simp only [WS, JA, JB, wI64, wU64, Int.reduceAdd, Int.reduceSub, Int.reduceMul, Int.reduceLE, Int.reduceLT, Int.reduceNeg, Int.reduceToNat, Int.cast_ofNat_Int, sx0, sx1, sx2, sx3, sx4, sx5, sx6, sx7, sy0, sy1, List.filterMap_cons, JC, JD, WT, JE, JF, JG, JH, JI, JJ, JK, WU, JL, JM, JN, JO, WV, JP, JQ, WW, JR, JS, JT, JU, JV, JW, JX, JY, JZ, WA, WB, WC, WD, WE, WF, WG, WH, WI, WJ, WK, WL, WM, WN, true_and, and_true, reduceCtorEq, ↓reduceIte, ↓bifT, ↓bifF, ↓gifT, ↓gifF, eq_self, WO, WP, WQ, Nat.reduceLT, Nat.reduceLeDiff, Nat.reduceAdd, Nat.reduceSub, Nat.reduceMul, Nat.reduceMod, WR, Nat.reduceBEq, Int.reduceBEq, Int.reduceBNe, BEq.rfl, hnt, hT])
    | ((first | refine SX.skip ?_ | refine SX.exit ?_ | refine SX.label ?_); try simp only [WS, JA, JB, wI64, wU64, Int.reduceAdd, Int.reduceSub, Int.reduceMul, Int.reduceLE, Int.reduceLT, Int.reduceNeg, Int.reduceToNat, Int.cast_ofNat_Int, sx0, sx1, sx2, sx3, sx4, sx5, sx6, sx7, sy0, sy1, List.filterMap_cons, JC, JD, WT, JE, JF, JG, JH, JI, JJ, JK, WU, JL, JM, JN, JO, WV, JP, JQ, WW, JR, JS, JT, JU, JV, JW, JX, JY, JZ, WA, WB, WC, WD, WE, WF, WG, WH, WI, WJ, WK, WL, WM, WN, true_and, and_true, reduceCtorEq, ↓reduceIte, ↓bifT, ↓bifF, ↓gifT, ↓gifF, eq_self, WO, WP, WQ, Nat.reduceLT, Nat.reduceLeDiff, Nat.reduceAdd, Nat.reduceSub, Nat.reduceMul, Nat.reduceMod, WR, Nat.reduceBEq, Int.reduceBEq, Int.reduceBNe, BEq.rfl])
    | (refine SX.cond rfl (fun hb => ?_) (fun hb => ?_) <;> ((first | cases hb | (simp only [decide_eq_true_eq, decide_eq_false_iff_not, beq_iff_eq, beq_eq_false_iff_ne, bne_iff_ne, Bool.and_eq_true, Bool.or_eq_true, Bool.not_eq_true', Bool.not_eq_false', Bool.and_eq_false_iff, Bool.or_eq_false_iff, Int.not_lt, Int.not_le] at hb) | skip) <;> (first | (exfalso; omega) | skip)))
    | (refine SX.ret ?_; try simp only [WS, JA, JB, wI64, wU64, Int.reduceAdd, Int.reduceSub, Int.reduceMul, Int.reduceLE, Int.reduceLT, Int.reduceNeg, Int.reduceToNat, Int.cast_ofNat_Int, sx0, sx1, sx2, sx3, sx4, sx5, sx6, sx7, sy0, sy1, List.filterMap_cons, JC, JD, WT, JE, JF, JG, JH, JI, JJ, JK, WU, JL, JM, JN, JO, WV, JP, JQ, WW, JR, JS, JT, JU, JV, JW, JX, JY, JZ, WA, WB, WC, WD, WE, WF, WG, WH, WI, WJ, WK, WL, WM, WN, true_and, and_true, reduceCtorEq, ↓reduceIte, ↓bifT, ↓bifF, ↓gifT, ↓gifF, eq_self, WO, WP, WQ, Nat.reduceLT, Nat.reduceLeDiff, Nat.reduceAdd, Nat.reduceSub, Nat.reduceMul, Nat.reduceMod, WR, Nat.reduceBEq, Int.reduceBEq, Int.reduceBNe, BEq.rfl])
    | (refine hN _ ?_; clear hN N)
    | (refine hK _ _ (Fin.res rfl hown ?_); simp only [WS, JA, JB, wI64, wU64, Int.reduceAdd, Int.reduceSub, Int.reduceMul, Int.reduceLE, Int.reduceLT, Int.reduceNeg, Int.reduceToNat, Int.cast_ofNat_Int, sx0, sx1, sx2, sx3, sx4, sx5, sx6, sx7, sy0, sy1, List.filterMap_cons, JC, JD, WT, JE, JF, JG, JH, JI, JJ, JK, WU, JL, JM, JN, JO, WV, JP, JQ, WW, JR, JS, JT, JU, JV, JW, JX, JY, JZ, WA, WB, WC, WD, WE, WF, WG, WH, WI, WJ, WK, WL, WM, WN, true_and, and_true, reduceCtorEq, ↓reduceIte, ↓bifT, ↓bifF, ↓gifT, ↓gifF, eq_self, WO, WP, WQ, Nat.reduceLT, Nat.reduceLeDiff, Nat.reduceAdd, Nat.reduceSub, Nat.reduceMul, Nat.reduceMod, WR, Nat.reduceBEq, Int.reduceBEq, Int.reduceBNe, BEq.rfl, f_a, f_b, f_n, f_c, f_B, f_v, f_g, f_0, f_1, f_2, hT, hwi]; intro w' hbel; refine Done.out ?_)
    | (clear hN N; first | (refine hN _ ?_; clear hN N) | (clear hN N; first | (refine hN _ ?_; clear hN N) | (clear hN N; first | (refine hN _ ?_; clear hN N) | (clear hN N; first | (refine hN _ ?_; clear hN N) | (clear hN N; first | (refine hN _ ?_; clear hN N) | (refine hN _ ?_; clear hN N))))))
    | (refine bif2.mk (fun hb => ?_) (fun hb => ?_) <;> (try simp only [hb, WS, JA, JB, wI64, wU64, Int.reduceAdd, Int.reduceSub, Int.reduceMul, Int.reduceLE, Int.reduceLT, Int.reduceNeg, Int.reduceToNat, Int.cast_ofNat_Int, sx0, sx1, sx2, sx3, sx4, sx5, sx6, sx7, sy0, sy1, List.filterMap_cons, JC, JD, WT, JE, JF, JG, JH, JI, JJ, JK, WU, JL, JM, JN, JO, WV, JP, JQ, WW, JR, JS, JT, JU, JV, JW, JX, JY, JZ, WA, WB, WC, WD, WE, WF, WG, WH, WI, WJ, WK, WL, WM, WN, true_and, and_true, reduceCtorEq, ↓reduceIte, ↓bifT, ↓bifF, ↓gifT, ↓gifF, eq_self, WO, WP, WQ, Nat.reduceLT, Nat.reduceLeDiff, Nat.reduceAdd, Nat.reduceSub, Nat.reduceMul, Nat.reduceMod, WR, Nat.reduceBEq, Int.reduceBEq, Int.reduceBNe, BEq.rfl, hnt, hT]) <;> ((first | cases hb | (simp only [decide_eq_true_eq, decide_eq_false_iff_not, beq_iff_eq, beq_eq_false_iff_ne, bne_iff_ne, Bool.and_eq_true, Bool.or_eq_true, Bool.not_eq_true', Bool.not_eq_false', Bool.and_eq_false_iff, Bool.or_eq_false_iff, Int.not_lt, Int.not_le] at hb) | skip) <;> (first | (exfalso; omega) | skip)))
    | ((first | (refine CallVC.pv hP (trim_any _ (by omega)) rfl ?_) | (refine CallQ.pv hP (trim_any _ (by omega)) rfl ?_)); simp only [WS, JA, JB, wI64, wU64, Int.reduceAdd, Int.reduceSub, Int.reduceMul, Int.reduceLE, Int.reduceLT, Int.reduceNeg, Int.reduceToNat, Int.cast_ofNat_Int, sx0, sx1, sx2, sx3, sx4, sx5, sx6, sx7, sy0, sy1, List.filterMap_cons, JC, JD, WT, JE, JF, JG, JH, JI, JJ, JK, WU, JL, JM, JN, JO, WV, JP, JQ, WW, JR, JS, JT, JU, JV, JW, JX, JY, JZ, WA, WB, WC, WD, WE, WF, WG, WH, WI, WJ, WK, WL, WM, WN, true_and, and_true, reduceCtorEq, ↓reduceIte, ↓bifT, ↓bifF, ↓gifT, ↓gifF, eq_self, WO, WP, WQ, Nat.reduceLT, Nat.reduceLeDiff, Nat.reduceAdd, Nat.reduceSub, Nat.reduceMul, Nat.reduceMod, WR, Nat.reduceBEq, Int.reduceBEq, Int.reduceBNe, BEq.rfl, hnt, hT])
    | (refine SX.block ?_)
    | (refine and_mk ?_ ?_; (focus first | decide | omega | rfl | assumption | (simp only [List.length_append, List.length_cons, List.length_nil, B_size]; omega) | (simp; done)))
    | (refine And.intro ?_ ?_))
  all_goals (try refine Done.mk ?_)
  all_goals (refine ⟨?_, hbel⟩; simp_all [nameB] <;> (intros; omega))
def keyB (t : Int) (s : List UInt8) : Bool := decide (1 ≤ t) && decide (t ≤ 5) && (s == [42] || nameB s)
theorem key_any (t : Int) (s : List UInt8) (hs : s.length ≤ 4611686018427387904) (w : World) : Calls Tryd.prog 78 #[.agg #[.int .i64 t, .string (B s)]] w fun e w' => e = .returned (.bool (keyB t s)) ∧ Below w.heap.size w w' := by
  refine calls_pureK (args := [.agg #[.int .i64 t, .string (B s)]]) w Tryd.func78 rfl Tryd.ntmps78 (by simp) ?_
  intro X K hX hK
  have hnt : X.nt = 21 := by rw [hX]
  have hwi : X.wi = w := by rw [hX]
  have hP : X.P = Tryd.prog := by rw [hX]
  have hown : X.own = [] := by rw [hX]
  have hbl : X.base.length = 0 := by rw [hX]; rfl
  clear hX
  have hT : fieldOff X.P 26 0 = some 0 ∧ aggOf X.P 3 = some false ∧ szOf X.P 3 = some 1 ∧ fieldOff X.P 26 1 = some 1 ∧ aggOf X.P 9 = some false ∧ szOf X.P 9 = some 1 ∧ calleeOk X.P 101 = true := by rw [hP]; exact ⟨Ty.fo26_0, Ty.ag3, Ty.sz3, Ty.fo26_1, Ty.ag9, Ty.sz9, Ty.co101⟩
  repeat' (first
    | (refine SX.seqK ?_; intro N hN)
    | ((first | (refine SX.ops ?_)); simp only [WS, JA, JB, wI64, wU64, Int.reduceAdd, Int.reduceSub, Int.reduceMul, Int.reduceLE, Int.reduceLT, Int.reduceNeg, Int.reduceToNat, Int.cast_ofNat_Int, sx0, sx1, sx2, sx3, sx4, sx5, sx6, sx7, sy0, sy1, List.filterMap_cons, JC, JD, WT, JE, JF, JG, JH, JI, JJ, JK, WU, JL, JM, JN, JO, WV, JP, JQ, WW, JR, JS, JT, JU, JV, JW, JX, JY, JZ, WA, WB, WC, WD, WE, WF, WG, WH, WI, WJ, WK, WL, WM, WN, true_and, and_true, reduceCtorEq, ↓reduceIte, ↓bifT, ↓bifF, ↓gifT, ↓gifF, eq_self, WO, WP, WQ, Nat.reduceLT, Nat.reduceLeDiff, Nat.reduceAdd, Nat.reduceSub, Nat.reduceMul, Nat.reduceMod, WR, Nat.reduceBEq, Int.reduceBEq, Int.reduceBNe, BEq.rfl, hnt, hT])
    | ((first | refine SX.skip ?_ | refine SX.exit ?_ | refine SX.label ?_); try simp only [WS, JA, JB, wI64, wU64, Int.reduceAdd, Int.reduceSub, Int.reduceMul, Int.reduceLE, Int.reduceLT, Int.reduceNeg, Int.reduceToNat, Int.cast_ofNat_Int, sx0, sx1, sx2, sx3, sx4, sx5, sx6, sx7, sy0, sy1, List.filterMap_cons, JC, JD, WT, JE, JF, JG, JH, JI, JJ, JK, WU, JL, JM, JN, JO, WV, JP, JQ, WW, JR, JS, JT, JU, JV, JW, JX, JY, JZ, WA, WB, WC, WD, WE, WF, WG, WH, WI, WJ, WK, WL, WM, WN, true_and, and_true, reduceCtorEq, ↓reduceIte, ↓bifT, ↓bifF, ↓gifT, ↓gifF, eq_self, WO, WP, WQ, Nat.reduceLT, Nat.reduceLeDiff, Nat.reduceAdd, Nat.reduceSub, Nat.reduceMul, Nat.reduceMod, WR, Nat.reduceBEq, Int.reduceBEq, Int.reduceBNe, BEq.rfl])
    | (refine SX.cond rfl (fun hb => ?_) (fun hb => ?_) <;> ((first | cases hb | (simp only [decide_eq_true_eq, decide_eq_false_iff_not, beq_iff_eq, beq_eq_false_iff_ne, bne_iff_ne, Bool.and_eq_true, Bool.or_eq_true, Bool.not_eq_true', Bool.not_eq_false', Bool.and_eq_false_iff, Bool.or_eq_false_iff, Int.not_lt, Int.not_le] at hb) | skip) <;> (first | (exfalso; omega) | skip)))
    | (refine SX.ret ?_; try simp only [WS, JA, JB, wI64, wU64, Int.reduceAdd, Int.reduceSub, Int.reduceMul, Int.reduceLE, Int.reduceLT, Int.reduceNeg, Int.reduceToNat, Int.cast_ofNat_Int, sx0, sx1, sx2, sx3, sx4, sx5, sx6, sx7, sy0, sy1, List.filterMap_cons, JC, JD, WT, JE, JF, JG, JH, JI, JJ, JK, WU, JL, JM, JN, JO, WV, JP, JQ, WW, JR, JS, JT, JU, JV, JW, JX, JY, JZ, WA, WB, WC, WD, WE, WF, WG, WH, WI, WJ, WK, WL, WM, WN, true_and, and_true, reduceCtorEq, ↓reduceIte, ↓bifT, ↓bifF, ↓gifT, ↓gifF, eq_self, WO, WP, WQ, Nat.reduceLT, Nat.reduceLeDiff, Nat.reduceAdd, Nat.reduceSub, Nat.reduceMul, Nat.reduceMod, WR, Nat.reduceBEq, Int.reduceBEq, Int.reduceBNe, BEq.rfl])
    | (refine hN _ ?_; clear hN N)
    | (refine hK _ _ (Fin.res rfl hown ?_); simp only [WS, JA, JB, wI64, wU64, Int.reduceAdd, Int.reduceSub, Int.reduceMul, Int.reduceLE, Int.reduceLT, Int.reduceNeg, Int.reduceToNat, Int.cast_ofNat_Int, sx0, sx1, sx2, sx3, sx4, sx5, sx6, sx7, sy0, sy1, List.filterMap_cons, JC, JD, WT, JE, JF, JG, JH, JI, JJ, JK, WU, JL, JM, JN, JO, WV, JP, JQ, WW, JR, JS, JT, JU, JV, JW, JX, JY, JZ, WA, WB, WC, WD, WE, WF, WG, WH, WI, WJ, WK, WL, WM, WN, true_and, and_true, reduceCtorEq, ↓reduceIte, ↓bifT, ↓bifF, ↓gifT, ↓gifF, eq_self, WO, WP, WQ, Nat.reduceLT, Nat.reduceLeDiff, Nat.reduceAdd, Nat.reduceSub, Nat.reduceMul, Nat.reduceMod, WR, Nat.reduceBEq, Int.reduceBEq, Int.reduceBNe, BEq.rfl, f_a, f_b, f_n, f_c, f_B, f_v, f_g, f_0, f_1, f_2, hT, hwi]; intro w' hbel; refine Done.out ?_)
    | (clear hN N; first | (refine hN _ ?_; clear hN N) | (clear hN N; first | (refine hN _ ?_; clear hN N) | (clear hN N; first | (refine hN _ ?_; clear hN N) | (clear hN N; first | (refine hN _ ?_; clear hN N) | (clear hN N; first | (refine hN _ ?_; clear hN N) | (refine hN _ ?_; clear hN N))))))
    | (refine bif2.mk (fun hb => ?_) (fun hb => ?_) <;> (try simp only [hb, WS, JA, JB, wI64, wU64, Int.reduceAdd, Int.reduceSub, Int.reduceMul, Int.reduceLE, Int.reduceLT, Int.reduceNeg, Int.reduceToNat, Int.cast_ofNat_Int, sx0, sx1, sx2, sx3, sx4, sx5, sx6, sx7, sy0, sy1, List.filterMap_cons, JC, JD, WT, JE, JF, JG, JH, JI, JJ, JK, WU, JL, JM, JN, JO, WV, JP, JQ, WW, JR, JS, JT, JU, JV, JW, JX, JY, JZ, WA, WB, WC, WD, WE, WF, WG, WH, WI, WJ, WK, WL, WM, WN, true_and, and_true, reduceCtorEq, ↓reduceIte, ↓bifT, ↓bifF, ↓gifT, ↓gifF, eq_self, WO, WP, WQ, Nat.reduceLT, Nat.reduceLeDiff, Nat.reduceAdd, Nat.reduceSub, Nat.reduceMul, Nat.reduceMod, WR, Nat.reduceBEq, Int.reduceBEq, Int.reduceBNe, BEq.rfl, hnt, hT]) <;> ((first | cases hb | (simp only [decide_eq_true_eq, decide_eq_false_iff_not, beq_iff_eq, beq_eq_false_iff_ne, bne_iff_ne, Bool.and_eq_true, Bool.or_eq_true, Bool.not_eq_true', Bool.not_eq_false', Bool.and_eq_false_iff, Bool.or_eq_false_iff, Int.not_lt, Int.not_le] at hb) | skip) <;> (first | (exfalso; omega) | skip)))
    | ((first | (refine CallVC.pv hP (name_any _ hs) rfl ?_) | (refine CallQ.pv hP (name_any _ hs) rfl ?_)); simp only [WS, JA, JB, wI64, wU64, Int.reduceAdd, Int.reduceSub, Int.reduceMul, Int.reduceLE, Int.reduceLT, Int.reduceNeg, Int.reduceToNat, Int.cast_ofNat_Int, sx0, sx1, sx2, sx3, sx4, sx5, sx6, sx7, sy0, sy1, List.filterMap_cons, JC, JD, WT, JE, JF, JG, JH, JI, JJ, JK, WU, JL, JM, JN, JO, WV, JP, JQ, WW, JR, JS, JT, JU, JV, JW, JX, JY, JZ, WA, WB, WC, WD, WE, WF, WG, WH, WI, WJ, WK, WL, WM, WN, true_and, and_true, reduceCtorEq, ↓reduceIte, ↓bifT, ↓bifF, ↓gifT, ↓gifF, eq_self, WO, WP, WQ, Nat.reduceLT, Nat.reduceLeDiff, Nat.reduceAdd, Nat.reduceSub, Nat.reduceMul, Nat.reduceMod, WR, Nat.reduceBEq, Int.reduceBEq, Int.reduceBNe, BEq.rfl, hnt, hT])
    | (refine SX.block ?_)
    | (refine and_mk ?_ ?_; (focus first | decide | omega | rfl | assumption | (simp only [List.length_append, List.length_cons, List.length_nil, B_size]; omega) | (simp; done)))
    | (refine And.intro ?_ ?_))
  all_goals (try refine Done.mk ?_)
  all_goals (refine ⟨?_, hbel⟩; simp_all [keyB] <;> (intros; omega))
def statusB (t : Int) (s : List UInt8) (q : Int) (ok : Bool) (d : List UInt8) : Bool := keyB t s && !(s == [42]) && decide (0 < q) && decide ((d.length : Int) ≤ 256) && (!ok || d == [])
theorem statusRight_any (t : Int) (s : List UInt8) (q : Int) (ok : Bool) (d : List UInt8) (hs : s.length ≤ 4611686018427387904) (w : World) :
    Calls Tryd.prog 64 #[.agg #[.int .i64 t, .string (B s), .int .u64 q, .bool ok, .string (B d)]] w fun e w' => e = .returned (.bool (statusB t s q ok d)) ∧ Below w.heap.size w w' := by
  refine calls_pureK (args := [.agg #[.int .i64 t, .string (B s), .int .u64 q, .bool ok, .string (B d)]]) w Tryd.func64 rfl Tryd.ntmps64 (by simp) ?_
  intro X K hX hK
  have hnt : X.nt = 33 := by rw [hX]
  have hwi : X.wi = w := by rw [hX]
  have hP : X.P = Tryd.prog := by rw [hX]
  have hown : X.own = [] := by rw [hX]
  have hbl : X.base.length = 0 := by rw [hX]; rfl
  clear hX
  have hT : fieldOff X.P 30 0 = some 0 ∧ aggOf X.P 26 = some true ∧ szOf X.P 26 = some 2 ∧ calleeOk X.P 78 = true ∧ fieldOff X.P 26 1 = some 1 ∧ aggOf X.P 9 = some false ∧ szOf X.P 9 = some 1 ∧ fieldOff X.P 30 1 = some 2 ∧ aggOf X.P 22 = some false ∧ szOf X.P 22 = some 1 ∧ fieldOff X.P 30 3 = some 4 ∧ X.P.underlying 9 = some TypeDesc.string ∧ fieldOff X.P 30 2 = some 3 ∧ aggOf X.P 4 = some false ∧ szOf X.P 4 = some 1 := by rw [hP]; exact ⟨Ty.fo30_0, Ty.ag26, Ty.sz26, Ty.co78, Ty.fo26_1, Ty.ag9, Ty.sz9, Ty.fo30_1, Ty.ag22, Ty.sz22, Ty.fo30_3, Tryd.underlying9, Ty.fo30_2, Ty.ag4, Ty.sz4⟩
  repeat' (first
    | (refine SX.seqK ?_; intro N hN)
    | ((first | (refine SX.ops ?_)); simp only [WS, JA, JB, wI64, wU64, Int.reduceAdd, Int.reduceSub, Int.reduceMul, Int.reduceLE, Int.reduceLT, Int.reduceNeg, Int.reduceToNat, Int.cast_ofNat_Int, sx0, sx1, sx2, sx3, sx4, sx5, sx6, sx7, sy0, sy1, List.filterMap_cons, JC, JD, WT, JE, JF, JG, JH, JI, JJ, JK, WU, JL, JM, JN, JO, WV, JP, JQ, WW, JR, JS, JT, JU, JV, JW, JX, JY, JZ, WA, WB, WC, WD, WE, WF, WG, WH, WI, WJ, WK, WL, WM, WN, true_and, and_true, reduceCtorEq, ↓reduceIte, ↓bifT, ↓bifF, ↓gifT, ↓gifF, eq_self, WO, WP, WQ, Nat.reduceLT, Nat.reduceLeDiff, Nat.reduceAdd, Nat.reduceSub, Nat.reduceMul, Nat.reduceMod, WR, Nat.reduceBEq, Int.reduceBEq, Int.reduceBNe, BEq.rfl, hnt, hT])
    | ((first | refine SX.skip ?_ | refine SX.exit ?_ | refine SX.label ?_); try simp only [WS, JA, JB, wI64, wU64, Int.reduceAdd, Int.reduceSub, Int.reduceMul, Int.reduceLE, Int.reduceLT, Int.reduceNeg, Int.reduceToNat, Int.cast_ofNat_Int, sx0, sx1, sx2, sx3, sx4, sx5, sx6, sx7, sy0, sy1, List.filterMap_cons, JC, JD, WT, JE, JF, JG, JH, JI, JJ, JK, WU, JL, JM, JN, JO, WV, JP, JQ, WW, JR, JS, JT, JU, JV, JW, JX, JY, JZ, WA, WB, WC, WD, WE, WF, WG, WH, WI, WJ, WK, WL, WM, WN, true_and, and_true, reduceCtorEq, ↓reduceIte, ↓bifT, ↓bifF, ↓gifT, ↓gifF, eq_self, WO, WP, WQ, Nat.reduceLT, Nat.reduceLeDiff, Nat.reduceAdd, Nat.reduceSub, Nat.reduceMul, Nat.reduceMod, WR, Nat.reduceBEq, Int.reduceBEq, Int.reduceBNe, BEq.rfl])
    | (refine SX.cond rfl (fun hb => ?_) (fun hb => ?_) <;> ((first | cases hb | (simp only [decide_eq_true_eq, decide_eq_false_iff_not, beq_iff_eq, beq_eq_false_iff_ne, bne_iff_ne, Bool.and_eq_true, Bool.or_eq_true, Bool.not_eq_true', Bool.not_eq_false', Bool.and_eq_false_iff, Bool.or_eq_false_iff, Int.not_lt, Int.not_le] at hb) | skip) <;> (first | (exfalso; omega) | skip)))
    | (refine SX.ret ?_; try simp only [WS, JA, JB, wI64, wU64, Int.reduceAdd, Int.reduceSub, Int.reduceMul, Int.reduceLE, Int.reduceLT, Int.reduceNeg, Int.reduceToNat, Int.cast_ofNat_Int, sx0, sx1, sx2, sx3, sx4, sx5, sx6, sx7, sy0, sy1, List.filterMap_cons, JC, JD, WT, JE, JF, JG, JH, JI, JJ, JK, WU, JL, JM, JN, JO, WV, JP, JQ, WW, JR, JS, JT, JU, JV, JW, JX, JY, JZ, WA, WB, WC, WD, WE, WF, WG, WH, WI, WJ, WK, WL, WM, WN, true_and, and_true, reduceCtorEq, ↓reduceIte, ↓bifT, ↓bifF, ↓gifT, ↓gifF, eq_self, WO, WP, WQ, Nat.reduceLT, Nat.reduceLeDiff, Nat.reduceAdd, Nat.reduceSub, Nat.reduceMul, Nat.reduceMod, WR, Nat.reduceBEq, Int.reduceBEq, Int.reduceBNe, BEq.rfl])
    | (refine hN _ ?_; clear hN N)
    | (refine hK _ _ (Fin.res rfl hown ?_); simp only [WS, JA, JB, wI64, wU64, Int.reduceAdd, Int.reduceSub, Int.reduceMul, Int.reduceLE, Int.reduceLT, Int.reduceNeg, Int.reduceToNat, Int.cast_ofNat_Int, sx0, sx1, sx2, sx3, sx4, sx5, sx6, sx7, sy0, sy1, List.filterMap_cons, JC, JD, WT, JE, JF, JG, JH, JI, JJ, JK, WU, JL, JM, JN, JO, WV, JP, JQ, WW, JR, JS, JT, JU, JV, JW, JX, JY, JZ, WA, WB, WC, WD, WE, WF, WG, WH, WI, WJ, WK, WL, WM, WN, true_and, and_true, reduceCtorEq, ↓reduceIte, ↓bifT, ↓bifF, ↓gifT, ↓gifF, eq_self, WO, WP, WQ, Nat.reduceLT, Nat.reduceLeDiff, Nat.reduceAdd, Nat.reduceSub, Nat.reduceMul, Nat.reduceMod, WR, Nat.reduceBEq, Int.reduceBEq, Int.reduceBNe, BEq.rfl, f_a, f_b, f_n, f_c, f_B, f_v, f_g, f_0, f_1, f_2, hT, hwi]; intro w' hbel; refine Done.out ?_)
    | (clear hN N; first | (refine hN _ ?_; clear hN N) | (clear hN N; first | (refine hN _ ?_; clear hN N) | (clear hN N; first | (refine hN _ ?_; clear hN N) | (clear hN N; first | (refine hN _ ?_; clear hN N) | (clear hN N; first | (refine hN _ ?_; clear hN N) | (refine hN _ ?_; clear hN N))))))
    | (refine bif2.mk (fun hb => ?_) (fun hb => ?_) <;> (try simp only [hb, WS, JA, JB, wI64, wU64, Int.reduceAdd, Int.reduceSub, Int.reduceMul, Int.reduceLE, Int.reduceLT, Int.reduceNeg, Int.reduceToNat, Int.cast_ofNat_Int, sx0, sx1, sx2, sx3, sx4, sx5, sx6, sx7, sy0, sy1, List.filterMap_cons, JC, JD, WT, JE, JF, JG, JH, JI, JJ, JK, WU, JL, JM, JN, JO, WV, JP, JQ, WW, JR, JS, JT, JU, JV, JW, JX, JY, JZ, WA, WB, WC, WD, WE, WF, WG, WH, WI, WJ, WK, WL, WM, WN, true_and, and_true, reduceCtorEq, ↓reduceIte, ↓bifT, ↓bifF, ↓gifT, ↓gifF, eq_self, WO, WP, WQ, Nat.reduceLT, Nat.reduceLeDiff, Nat.reduceAdd, Nat.reduceSub, Nat.reduceMul, Nat.reduceMod, WR, Nat.reduceBEq, Int.reduceBEq, Int.reduceBNe, BEq.rfl, hnt, hT]) <;> ((first | cases hb | (simp only [decide_eq_true_eq, decide_eq_false_iff_not, beq_iff_eq, beq_eq_false_iff_ne, bne_iff_ne, Bool.and_eq_true, Bool.or_eq_true, Bool.not_eq_true', Bool.not_eq_false', Bool.and_eq_false_iff, Bool.or_eq_false_iff, Int.not_lt, Int.not_le] at hb) | skip) <;> (first | (exfalso; omega) | skip)))
    | ((first | (refine CallVC.pv hP (key_any _ _ hs) rfl ?_) | (refine CallQ.pv hP (key_any _ _ hs) rfl ?_)); simp only [WS, JA, JB, wI64, wU64, Int.reduceAdd, Int.reduceSub, Int.reduceMul, Int.reduceLE, Int.reduceLT, Int.reduceNeg, Int.reduceToNat, Int.cast_ofNat_Int, sx0, sx1, sx2, sx3, sx4, sx5, sx6, sx7, sy0, sy1, List.filterMap_cons, JC, JD, WT, JE, JF, JG, JH, JI, JJ, JK, WU, JL, JM, JN, JO, WV, JP, JQ, WW, JR, JS, JT, JU, JV, JW, JX, JY, JZ, WA, WB, WC, WD, WE, WF, WG, WH, WI, WJ, WK, WL, WM, WN, true_and, and_true, reduceCtorEq, ↓reduceIte, ↓bifT, ↓bifF, ↓gifT, ↓gifF, eq_self, WO, WP, WQ, Nat.reduceLT, Nat.reduceLeDiff, Nat.reduceAdd, Nat.reduceSub, Nat.reduceMul, Nat.reduceMod, WR, Nat.reduceBEq, Int.reduceBEq, Int.reduceBNe, BEq.rfl, hnt, hT])
    | (refine SX.block ?_)
    | (refine and_mk ?_ ?_; (focus first | decide | omega | rfl | assumption | (simp only [List.length_append, List.length_cons, List.length_nil, B_size]; omega) | (simp; done)))
    | (refine And.intro ?_ ?_))
  all_goals (try refine Done.mk ?_)
  all_goals (refine ⟨?_, hbel⟩; simp_all [statusB] <;> (intros; omega))
end Go.Proofs.YtbdacbcpniegiaaDoor
namespace Go.Proofs.YtbdacbcpniegiaaDoor
open Go Go.RowKit Go.Proofs Go.Sx
set_option maxHeartbeats 4000000
set_option maxRecDepth 100000
set_option linter.unusedSimpArgs false
set_option linter.unusedVariables false
theorem noEscape_run {P : Program} (hP : P = Tryd.prog) (v : Value) (w : World) : (callFunc 150 #[v]).run P w = .ok (.value v) w := by
  subst hP
  rw [run_callFunc_extern Tryd.func150 (by kernel_rfl) (by kernel_rfl) (by kernel_rfl) (e := Extern.AbiNoEscape.same) (by kernel_rfl), Lib.run_noEscape]
  rfl
theorem writeByte_fresh (b : Int) : Ctr Tryd.prog [] 65 [.cells [.v (.pointer none), .v (.slice none 0 0)] 123] [.one (.c (.loc 0 0)), vv (.int .u8 b)]
    (fun os s => os = [.cells [.loc 0 0, .row 3] 123, .cells [.v (.int .u8 b)] 5, .gone, .row 5 1 1 [.int .u8 b]] ∧ s = vv .nilIface) := by
  intro X0 hP0 hG0 N0 hN0
  refine CallVC.inline (f := 65) (by rw [hP0]; exact Tryd.func65) rfl Tryd.ntmps65 rfl (by simp) ?_
  intro X K hU hnt hbl hK
  have hP : X.P = Tryd.prog := by rw [hU.P, hP0]
  have hG := hG0.under hU
  have hT : calleeOk X.P 122 = true ∧ fieldOff X.P 121 1 = some 1 ∧ aggOf X.P 58 = some false ∧ szOf X.P 58 = some 1 ∧ elemSz X.P 58 = some (5, 1) ∧ zeroCells X.P 5 = some [(Value.int IntKind.u8 0)] ∧ elemInf X.P 58 = some (5, 1, 1, (Value.int IntKind.u8 0)) ∧ isStrT X.P 58 = false := by rw [hP]; exact ⟨Ty.co122, Ty.fo121_1, Ty.ag58, Ty.sz58, Ty.el58, Ty.ze5, Ty.ei58, Ty.is58⟩
  simp only [WS, JA, JB, wI64, wU64, Int.reduceAdd, Int.reduceSub, Int.reduceMul, Int.reduceLE, Int.reduceLT, Int.reduceNeg, Int.reduceToNat, Int.cast_ofNat_Int, sx0, sx1, sx2, sx3, sx4, sx5, sx6, sx7, sy0, sy1, List.filterMap_cons, JC, JD, WT, JE, JF, JG, JH, JI, JJ, JK, WU, JL, JM, JN, JO, WV, JP, JQ, WW, JR, JS, JT, JU, JV, JW, JX, JY, JZ, WA, WB, WC, WD, WE, WF, WG, WH, WI, WJ, WK, WL, WM, WN, true_and, and_true, reduceCtorEq, ↓reduceIte, ↓bifT, ↓bifF, ↓gifT, ↓gifF, eq_self, WO, WP, WQ, Nat.reduceLT, Nat.reduceLeDiff, Nat.reduceAdd, Nat.reduceSub, Nat.reduceMul, Nat.reduceMod, WR, Nat.reduceBEq, Int.reduceBEq, Int.reduceBNe, BEq.rfl] at hbl ⊢
  have hnt1 := True.intro; have hT1 := True.intro; have hU1P := True.intro
  repeat' (first
    | (refine SX.seqK ?_; intro N hN)
    | ((first | (refine SX.ops ?_)); simp only [WS, JA, JB, wI64, wU64, Int.reduceAdd, Int.reduceSub, Int.reduceMul, Int.reduceLE, Int.reduceLT, Int.reduceNeg, Int.reduceToNat, Int.cast_ofNat_Int, sx0, sx1, sx2, sx3, sx4, sx5, sx6, sx7, sy0, sy1, List.filterMap_cons, JC, JD, WT, JE, JF, JG, JH, JI, JJ, JK, WU, JL, JM, JN, JO, WV, JP, JQ, WW, JR, JS, JT, JU, JV, JW, JX, JY, JZ, WA, WB, WC, WD, WE, WF, WG, WH, WI, WJ, WK, WL, WM, WN, true_and, and_true, reduceCtorEq, ↓reduceIte, ↓bifT, ↓bifF, ↓gifT, ↓gifF, eq_self, WO, WP, WQ, Nat.reduceLT, Nat.reduceLeDiff, Nat.reduceAdd, Nat.reduceSub, Nat.reduceMul, Nat.reduceMod, WR, Nat.reduceBEq, Int.reduceBEq, Int.reduceBNe, BEq.rfl, hnt, hT, hnt1, hT1, hU1P])
    | ((first | refine SX.skip ?_ | refine SX.exit ?_ | refine SX.label ?_); try simp only [WS, JA, JB, wI64, wU64, Int.reduceAdd, Int.reduceSub, Int.reduceMul, Int.reduceLE, Int.reduceLT, Int.reduceNeg, Int.reduceToNat, Int.cast_ofNat_Int, sx0, sx1, sx2, sx3, sx4, sx5, sx6, sx7, sy0, sy1, List.filterMap_cons, JC, JD, WT, JE, JF, JG, JH, JI, JJ, JK, WU, JL, JM, JN, JO, WV, JP, JQ, WW, JR, JS, JT, JU, JV, JW, JX, JY, JZ, WA, WB, WC, WD, WE, WF, WG, WH, WI, WJ, WK, WL, WM, WN, true_and, and_true, reduceCtorEq, ↓reduceIte, ↓bifT, ↓bifF, ↓gifT, ↓gifF, eq_self, WO, WP, WQ, Nat.reduceLT, Nat.reduceLeDiff, Nat.reduceAdd, Nat.reduceSub, Nat.reduceMul, Nat.reduceMod, WR, Nat.reduceBEq, Int.reduceBEq, Int.reduceBNe, BEq.rfl])
    | (refine SX.cond rfl (fun hb => ?_) (fun hb => ?_) <;> ((first | cases hb | (simp only [decide_eq_true_eq, decide_eq_false_iff_not, beq_iff_eq, beq_eq_false_iff_ne, bne_iff_ne, Bool.and_eq_true, Bool.or_eq_true, Bool.not_eq_true', Bool.not_eq_false', Bool.and_eq_false_iff, Bool.or_eq_false_iff, Int.not_lt, Int.not_le] at hb) | skip) <;> (first | (exfalso; omega) | skip)))
    | (refine SX.ret ?_; try simp only [WS, JA, JB, wI64, wU64, Int.reduceAdd, Int.reduceSub, Int.reduceMul, Int.reduceLE, Int.reduceLT, Int.reduceNeg, Int.reduceToNat, Int.cast_ofNat_Int, sx0, sx1, sx2, sx3, sx4, sx5, sx6, sx7, sy0, sy1, List.filterMap_cons, JC, JD, WT, JE, JF, JG, JH, JI, JJ, JK, WU, JL, JM, JN, JO, WV, JP, JQ, WW, JR, JS, JT, JU, JV, JW, JX, JY, JZ, WA, WB, WC, WD, WE, WF, WG, WH, WI, WJ, WK, WL, WM, WN, true_and, and_true, reduceCtorEq, ↓reduceIte, ↓bifT, ↓bifF, ↓gifT, ↓gifF, eq_self, WO, WP, WQ, Nat.reduceLT, Nat.reduceLeDiff, Nat.reduceAdd, Nat.reduceSub, Nat.reduceMul, Nat.reduceMod, WR, Nat.reduceBEq, Int.reduceBEq, Int.reduceBNe, BEq.rfl])
    | (refine hN _ ?_; clear hN N)
    | ((first | refine hK1 _ _ (FinI.ret3 ?_) | refine hK1 _ _ (FinI.nrm3 ?_)); (repeat (clear hN N)); clear hK1 K1; simp only [WS, JA, JB, wI64, wU64, Int.reduceAdd, Int.reduceSub, Int.reduceMul, Int.reduceLE, Int.reduceLT, Int.reduceNeg, Int.reduceToNat, Int.cast_ofNat_Int, sx0, sx1, sx2, sx3, sx4, sx5, sx6, sx7, sy0, sy1, List.filterMap_cons, JC, JD, WT, JE, JF, JG, JH, JI, JJ, JK, WU, JL, JM, JN, JO, WV, JP, JQ, WW, JR, JS, JT, JU, JV, JW, JX, JY, JZ, WA, WB, WC, WD, WE, WF, WG, WH, WI, WJ, WK, WL, WM, WN, true_and, and_true, reduceCtorEq, ↓reduceIte, ↓bifT, ↓bifF, ↓gifT, ↓gifF, eq_self, WO, WP, WQ, Nat.reduceLT, Nat.reduceLeDiff, Nat.reduceAdd, Nat.reduceSub, Nat.reduceMul, Nat.reduceMod, WR, Nat.reduceBEq, Int.reduceBEq, Int.reduceBNe, BEq.rfl, finP_s, hnt, hT, hnt1, hT1, hU1P])
    | ((first | refine hK _ _ (FinI.ret3 ?_) | refine hK _ _ (FinI.nrm3 ?_)); simp only [WS, JA, JB, wI64, wU64, Int.reduceAdd, Int.reduceSub, Int.reduceMul, Int.reduceLE, Int.reduceLT, Int.reduceNeg, Int.reduceToNat, Int.cast_ofNat_Int, sx0, sx1, sx2, sx3, sx4, sx5, sx6, sx7, sy0, sy1, List.filterMap_cons, JC, JD, WT, JE, JF, JG, JH, JI, JJ, JK, WU, JL, JM, JN, JO, WV, JP, JQ, WW, JR, JS, JT, JU, JV, JW, JX, JY, JZ, WA, WB, WC, WD, WE, WF, WG, WH, WI, WJ, WK, WL, WM, WN, true_and, and_true, reduceCtorEq, ↓reduceIte, ↓bifT, ↓bifF, ↓gifT, ↓gifF, eq_self, WO, WP, WQ, Nat.reduceLT, Nat.reduceLeDiff, Nat.reduceAdd, Nat.reduceSub, Nat.reduceMul, Nat.reduceMod, WR, Nat.reduceBEq, Int.reduceBEq, Int.reduceBNe, BEq.rfl, finP_s, hnt, hT, hnt1, hT1, hU1P]; refine Done.out ?_)
    | (clear hN N; first | (refine hN _ ?_; clear hN N) | (clear hN N; first | (refine hN _ ?_; clear hN N) | (clear hN N; first | (refine hN _ ?_; clear hN N) | (clear hN N; first | (refine hN _ ?_; clear hN N) | (clear hN N; first | (refine hN _ ?_; clear hN N) | (refine hN _ ?_; clear hN N))))))
    | (refine bif2.mk (fun hb => ?_) (fun hb => ?_) <;> (try simp only [hb, WS, JA, JB, wI64, wU64, Int.reduceAdd, Int.reduceSub, Int.reduceMul, Int.reduceLE, Int.reduceLT, Int.reduceNeg, Int.reduceToNat, Int.cast_ofNat_Int, sx0, sx1, sx2, sx3, sx4, sx5, sx6, sx7, sy0, sy1, List.filterMap_cons, JC, JD, WT, JE, JF, JG, JH, JI, JJ, JK, WU, JL, JM, JN, JO, WV, JP, JQ, WW, JR, JS, JT, JU, JV, JW, JX, JY, JZ, WA, WB, WC, WD, WE, WF, WG, WH, WI, WJ, WK, WL, WM, WN, true_and, and_true, reduceCtorEq, ↓reduceIte, ↓bifT, ↓bifF, ↓gifT, ↓gifF, eq_self, WO, WP, WQ, Nat.reduceLT, Nat.reduceLeDiff, Nat.reduceAdd, Nat.reduceSub, Nat.reduceMul, Nat.reduceMod, WR, Nat.reduceBEq, Int.reduceBEq, Int.reduceBNe, BEq.rfl, hnt, hT, hnt1, hT1, hU1P]) <;> ((first | cases hb | (simp only [decide_eq_true_eq, decide_eq_false_iff_not, beq_iff_eq, beq_eq_false_iff_ne, bne_iff_ne, Bool.and_eq_true, Bool.or_eq_true, Bool.not_eq_true', Bool.not_eq_false', Bool.and_eq_false_iff, Bool.or_eq_false_iff, Int.not_lt, Int.not_le] at hb) | skip) <;> (first | (exfalso; omega) | skip)))
    | (refine CallVC.inline (f := 122) ?_ rfl Tryd.ntmps122 rfl ?_ ?_; (focus rw [hP]; exact Tryd.func122); (focus simp); have hT1 : fieldOff X.P 121 0 = some 0 ∧ aggOf X.P 119 = some false ∧ szOf X.P 119 = some 1 ∧ X.P.underlying 119 = some (TypeDesc.pointer 121) ∧ X.P.underlying 211 = some TypeDesc.unsafePointer ∧ isBytesT X.P 119 = false ∧ isStrT X.P 211 = false ∧ calleeOk X.P 150 = false ∧ isBytesT X.P 211 = false ∧ isStrT X.P 119 = false := (by rw [hP]; exact ⟨Ty.fo121_0, Ty.ag119, Ty.sz119, Tryd.underlying119, Tryd.underlying211, Ty.ib119, Ty.is211, Ty.cx150, Ty.ib211, Ty.is119⟩); intro X1 K1 hU1 hnt1 hbl1 hK1; have hU1P := hU1.P; simp only [WS, JA, JB, wI64, wU64, Int.reduceAdd, Int.reduceSub, Int.reduceMul, Int.reduceLE, Int.reduceLT, Int.reduceNeg, Int.reduceToNat, Int.cast_ofNat_Int, sx0, sx1, sx2, sx3, sx4, sx5, sx6, sx7, sy0, sy1, List.filterMap_cons, JC, JD, WT, JE, JF, JG, JH, JI, JJ, JK, WU, JL, JM, JN, JO, WV, JP, JQ, WW, JR, JS, JT, JU, JV, JW, JX, JY, JZ, WA, WB, WC, WD, WE, WF, WG, WH, WI, WJ, WK, WL, WM, WN, true_and, and_true, reduceCtorEq, ↓reduceIte, ↓bifT, ↓bifF, ↓gifT, ↓gifF, eq_self, WO, WP, WQ, Nat.reduceLT, Nat.reduceLeDiff, Nat.reduceAdd, Nat.reduceSub, Nat.reduceMul, Nat.reduceMod, WR, Nat.reduceBEq, Int.reduceBEq, Int.reduceBNe, BEq.rfl] at hbl1 ⊢)
    | (refine VO.toUnsafe (src := 119) (t := 121) rfl (by rw [hU1P, hP]; kernel_rfl) (by rw [hU1P, hP]; kernel_rfl) (n := 1) (by rw [hU1P, hP]; kernel_rfl) rfl (by decide) ?_; simp only [WS, JA, JB, wI64, wU64, Int.reduceAdd, Int.reduceSub, Int.reduceMul, Int.reduceLE, Int.reduceLT, Int.reduceNeg, Int.reduceToNat, Int.cast_ofNat_Int, sx0, sx1, sx2, sx3, sx4, sx5, sx6, sx7, sy0, sy1, List.filterMap_cons, JC, JD, WT, JE, JF, JG, JH, JI, JJ, JK, WU, JL, JM, JN, JO, WV, JP, JQ, WW, JR, JS, JT, JU, JV, JW, JX, JY, JZ, WA, WB, WC, WD, WE, WF, WG, WH, WI, WJ, WK, WL, WM, WN, true_and, and_true, reduceCtorEq, ↓reduceIte, ↓bifT, ↓bifF, ↓gifT, ↓gifF, eq_self, WO, WP, WQ, Nat.reduceLT, Nat.reduceLeDiff, Nat.reduceAdd, Nat.reduceSub, Nat.reduceMul, Nat.reduceMod, WR, Nat.reduceBEq, Int.reduceBEq, Int.reduceBNe, BEq.rfl, hnt, hnt1, hT, hT1, hU1P])
    | (refine VO.same rfl (noEscape_run (hU1P.trans hP)) ?_; simp only [WS, JA, JB, wI64, wU64, Int.reduceAdd, Int.reduceSub, Int.reduceMul, Int.reduceLE, Int.reduceLT, Int.reduceNeg, Int.reduceToNat, Int.cast_ofNat_Int, sx0, sx1, sx2, sx3, sx4, sx5, sx6, sx7, sy0, sy1, List.filterMap_cons, JC, JD, WT, JE, JF, JG, JH, JI, JJ, JK, WU, JL, JM, JN, JO, WV, JP, JQ, WW, JR, JS, JT, JU, JV, JW, JX, JY, JZ, WA, WB, WC, WD, WE, WF, WG, WH, WI, WJ, WK, WL, WM, WN, true_and, and_true, reduceCtorEq, ↓reduceIte, ↓bifT, ↓bifF, ↓gifT, ↓gifF, eq_self, WO, WP, WQ, Nat.reduceLT, Nat.reduceLeDiff, Nat.reduceAdd, Nat.reduceSub, Nat.reduceMul, Nat.reduceMod, WR, Nat.reduceBEq, Int.reduceBEq, Int.reduceBNe, BEq.rfl, hnt, hnt1, hT, hT1, hU1P])
    | (refine VO.fromUnsafe (src := 211) (u := 121) rfl (by rw [hU1P, hP]; kernel_rfl) (by rw [hU1P, hP]; kernel_rfl) (n := 2) (by rw [hU1P, hP]; kernel_rfl) rfl (by rw [hU1P, hP]; kernel_rfl) ?_; simp only [WS, JA, JB, wI64, wU64, Int.reduceAdd, Int.reduceSub, Int.reduceMul, Int.reduceLE, Int.reduceLT, Int.reduceNeg, Int.reduceToNat, Int.cast_ofNat_Int, sx0, sx1, sx2, sx3, sx4, sx5, sx6, sx7, sy0, sy1, List.filterMap_cons, JC, JD, WT, JE, JF, JG, JH, JI, JJ, JK, WU, JL, JM, JN, JO, WV, JP, JQ, WW, JR, JS, JT, JU, JV, JW, JX, JY, JZ, WA, WB, WC, WD, WE, WF, WG, WH, WI, WJ, WK, WL, WM, WN, true_and, and_true, reduceCtorEq, ↓reduceIte, ↓bifT, ↓bifF, ↓gifT, ↓gifF, eq_self, WO, WP, WQ, Nat.reduceLT, Nat.reduceLeDiff, Nat.reduceAdd, Nat.reduceSub, Nat.reduceMul, Nat.reduceMod, WR, Nat.reduceBEq, Int.reduceBEq, Int.reduceBNe, BEq.rfl, hnt, hnt1, hT, hT1, hU1P])
    | (refine VO.ptrNil (e := 121) rfl rfl (by rw [hU1P, hP]; kernel_rfl) ?_; simp only [WS, JA, JB, wI64, wU64, Int.reduceAdd, Int.reduceSub, Int.reduceMul, Int.reduceLE, Int.reduceLT, Int.reduceNeg, Int.reduceToNat, Int.cast_ofNat_Int, sx0, sx1, sx2, sx3, sx4, sx5, sx6, sx7, sy0, sy1, List.filterMap_cons, JC, JD, WT, JE, JF, JG, JH, JI, JJ, JK, WU, JL, JM, JN, JO, WV, JP, JQ, WW, JR, JS, JT, JU, JV, JW, JX, JY, JZ, WA, WB, WC, WD, WE, WF, WG, WH, WI, WJ, WK, WL, WM, WN, true_and, and_true, reduceCtorEq, ↓reduceIte, ↓bifT, ↓bifF, ↓gifT, ↓gifF, eq_self, WO, WP, WQ, Nat.reduceLT, Nat.reduceLeDiff, Nat.reduceAdd, Nat.reduceSub, Nat.reduceMul, Nat.reduceMod, WR, Nat.reduceBEq, Int.reduceBEq, Int.reduceBNe, BEq.rfl, hnt, hnt1, hT, hT1, hU1P])
    | (refine VO.ptrSame (e := 121) (n := 2) rfl rfl (by rw [hU1P, hP]; kernel_rfl) (by rw [hU1P, hP]; kernel_rfl) ?_; simp only [WS, JA, JB, wI64, wU64, Int.reduceAdd, Int.reduceSub, Int.reduceMul, Int.reduceLE, Int.reduceLT, Int.reduceNeg, Int.reduceToNat, Int.cast_ofNat_Int, sx0, sx1, sx2, sx3, sx4, sx5, sx6, sx7, sy0, sy1, List.filterMap_cons, JC, JD, WT, JE, JF, JG, JH, JI, JJ, JK, WU, JL, JM, JN, JO, WV, JP, JQ, WW, JR, JS, JT, JU, JV, JW, JX, JY, JZ, WA, WB, WC, WD, WE, WF, WG, WH, WI, WJ, WK, WL, WM, WN, true_and, and_true, reduceCtorEq, ↓reduceIte, ↓bifT, ↓bifF, ↓gifT, ↓gifF, eq_self, WO, WP, WQ, Nat.reduceLT, Nat.reduceLeDiff, Nat.reduceAdd, Nat.reduceSub, Nat.reduceMul, Nat.reduceMod, WR, Nat.reduceBEq, Int.reduceBEq, Int.reduceBNe, BEq.rfl, hnt, hnt1, hT, hT1, hU1P])
    | (refine SX.block ?_)
    | (refine and_mk ?_ ?_; (focus first | decide | omega | rfl | assumption | (simp only [List.length_append, List.length_cons, List.length_nil, B_size]; omega) | (simp; done)))
    | (refine And.intro ?_ ?_))
  all_goals (try refine Done.mk ?_)
  exact hN0 _ _ ⟨rfl, rfl⟩
theorem writeString_used (l s : List UInt8) (n : Nat) (hn : n + s.length ≤ 1152921504606) : Ctr Tryd.prog [] 123 [.cells [.loc 0 0, .row 1] 123, .row 5 1 n (bcells l)] [.one (.c (.loc 0 0)), vv (.string (B s))]
    (fun os r => os = [.cells [.loc 0 0, .row 2] 123, .gone, .row 5 1 (n + s.length) (bcells (l ++ s))] ∧ r = .tup [.c (.v (.int .i64 s.length)), .c (.v .nilIface)]) := by
  intro X0 hP0 hG0 N0 hN0
  refine CallVC.inline (f := 123) (by rw [hP0]; exact Tryd.func123) rfl Tryd.ntmps123 rfl (by simp) ?_
  intro X K hU hnt hbl hK
  have hP : X.P = Tryd.prog := by rw [hU.P, hP0]
  have hG := hG0.under hU
  have hT : calleeOk X.P 122 = true ∧ fieldOff X.P 121 1 = some 1 ∧ aggOf X.P 58 = some false ∧ szOf X.P 58 = some 1 ∧ elemInf X.P 58 = some (5, 1, 1, (Value.int IntKind.u8 0)) ∧ isStrT X.P 9 = true ∧ X.P.underlying 9 = some TypeDesc.string := by rw [hP]; exact ⟨Ty.co122, Ty.fo121_1, Ty.ag58, Ty.sz58, Ty.ei58, Ty.is9, Tryd.underlying9⟩
  simp only [WS, JA, JB, wI64, wU64, Int.reduceAdd, Int.reduceSub, Int.reduceMul, Int.reduceLE, Int.reduceLT, Int.reduceNeg, Int.reduceToNat, Int.cast_ofNat_Int, sx0, sx1, sx2, sx3, sx4, sx5, sx6, sx7, sy0, sy1, List.filterMap_cons, JC, JD, WT, JE, JF, JG, JH, JI, JJ, JK, WU, JL, JM, JN, JO, WV, JP, JQ, WW, JR, JS, JT, JU, JV, JW, JX, JY, JZ, WA, WB, WC, WD, WE, WF, WG, WH, WI, WJ, WK, WL, WM, WN, true_and, and_true, reduceCtorEq, ↓reduceIte, ↓bifT, ↓bifF, ↓gifT, ↓gifF, eq_self, WO, WP, WQ, Nat.reduceLT, Nat.reduceLeDiff, Nat.reduceAdd, Nat.reduceSub, Nat.reduceMul, Nat.reduceMod, WR, Nat.reduceBEq, Int.reduceBEq, Int.reduceBNe, BEq.rfl] at hbl ⊢
  have hnt1 := True.intro; have hT1 := True.intro; have hU1P := True.intro
  repeat' (first
    | (refine SX.seqK ?_; intro N hN)
    | ((first | (refine SX.ops ?_)); simp only [WS, JA, JB, wI64, wU64, Int.reduceAdd, Int.reduceSub, Int.reduceMul, Int.reduceLE, Int.reduceLT, Int.reduceNeg, Int.reduceToNat, Int.cast_ofNat_Int, sx0, sx1, sx2, sx3, sx4, sx5, sx6, sx7, sy0, sy1, List.filterMap_cons, JC, JD, WT, JE, JF, JG, JH, JI, JJ, JK, WU, JL, JM, JN, JO, WV, JP, JQ, WW, JR, JS, JT, JU, JV, JW, JX, JY, JZ, WA, WB, WC, WD, WE, WF, WG, WH, WI, WJ, WK, WL, WM, WN, true_and, and_true, reduceCtorEq, ↓reduceIte, ↓bifT, ↓bifF, ↓gifT, ↓gifF, eq_self, WO, WP, WQ, Nat.reduceLT, Nat.reduceLeDiff, Nat.reduceAdd, Nat.reduceSub, Nat.reduceMul, Nat.reduceMod, WR, Nat.reduceBEq, Int.reduceBEq, Int.reduceBNe, BEq.rfl, hnt, hT, hnt1, hT1, hU1P, bcells_append])
    | ((first | refine SX.skip ?_ | refine SX.exit ?_ | refine SX.label ?_); try simp only [WS, JA, JB, wI64, wU64, Int.reduceAdd, Int.reduceSub, Int.reduceMul, Int.reduceLE, Int.reduceLT, Int.reduceNeg, Int.reduceToNat, Int.cast_ofNat_Int, sx0, sx1, sx2, sx3, sx4, sx5, sx6, sx7, sy0, sy1, List.filterMap_cons, JC, JD, WT, JE, JF, JG, JH, JI, JJ, JK, WU, JL, JM, JN, JO, WV, JP, JQ, WW, JR, JS, JT, JU, JV, JW, JX, JY, JZ, WA, WB, WC, WD, WE, WF, WG, WH, WI, WJ, WK, WL, WM, WN, true_and, and_true, reduceCtorEq, ↓reduceIte, ↓bifT, ↓bifF, ↓gifT, ↓gifF, eq_self, WO, WP, WQ, Nat.reduceLT, Nat.reduceLeDiff, Nat.reduceAdd, Nat.reduceSub, Nat.reduceMul, Nat.reduceMod, WR, Nat.reduceBEq, Int.reduceBEq, Int.reduceBNe, BEq.rfl])
    | (refine SX.cond rfl (fun hb => ?_) (fun hb => ?_) <;> ((first | cases hb | (simp only [decide_eq_true_eq, decide_eq_false_iff_not, beq_iff_eq, beq_eq_false_iff_ne, bne_iff_ne, Bool.and_eq_true, Bool.or_eq_true, Bool.not_eq_true', Bool.not_eq_false', Bool.and_eq_false_iff, Bool.or_eq_false_iff, Int.not_lt, Int.not_le] at hb) | skip) <;> (first | (exfalso; omega) | skip)))
    | (refine SX.ret ?_; try simp only [WS, JA, JB, wI64, wU64, Int.reduceAdd, Int.reduceSub, Int.reduceMul, Int.reduceLE, Int.reduceLT, Int.reduceNeg, Int.reduceToNat, Int.cast_ofNat_Int, sx0, sx1, sx2, sx3, sx4, sx5, sx6, sx7, sy0, sy1, List.filterMap_cons, JC, JD, WT, JE, JF, JG, JH, JI, JJ, JK, WU, JL, JM, JN, JO, WV, JP, JQ, WW, JR, JS, JT, JU, JV, JW, JX, JY, JZ, WA, WB, WC, WD, WE, WF, WG, WH, WI, WJ, WK, WL, WM, WN, true_and, and_true, reduceCtorEq, ↓reduceIte, ↓bifT, ↓bifF, ↓gifT, ↓gifF, eq_self, WO, WP, WQ, Nat.reduceLT, Nat.reduceLeDiff, Nat.reduceAdd, Nat.reduceSub, Nat.reduceMul, Nat.reduceMod, WR, Nat.reduceBEq, Int.reduceBEq, Int.reduceBNe, BEq.rfl])
    | (refine hN _ ?_; clear hN N)
    | ((first | refine hK1 _ _ (FinI.ret3 ?_) | refine hK1 _ _ (FinI.nrm3 ?_)); (repeat (clear hN N)); clear hK1 K1; simp only [WS, JA, JB, wI64, wU64, Int.reduceAdd, Int.reduceSub, Int.reduceMul, Int.reduceLE, Int.reduceLT, Int.reduceNeg, Int.reduceToNat, Int.cast_ofNat_Int, sx0, sx1, sx2, sx3, sx4, sx5, sx6, sx7, sy0, sy1, List.filterMap_cons, JC, JD, WT, JE, JF, JG, JH, JI, JJ, JK, WU, JL, JM, JN, JO, WV, JP, JQ, WW, JR, JS, JT, JU, JV, JW, JX, JY, JZ, WA, WB, WC, WD, WE, WF, WG, WH, WI, WJ, WK, WL, WM, WN, true_and, and_true, reduceCtorEq, ↓reduceIte, ↓bifT, ↓bifF, ↓gifT, ↓gifF, eq_self, WO, WP, WQ, Nat.reduceLT, Nat.reduceLeDiff, Nat.reduceAdd, Nat.reduceSub, Nat.reduceMul, Nat.reduceMod, WR, Nat.reduceBEq, Int.reduceBEq, Int.reduceBNe, BEq.rfl, finP_s, hnt, hT, hnt1, hT1, hU1P, bcells_append])
    | ((first | refine hK _ _ (FinI.ret3 ?_) | refine hK _ _ (FinI.nrm3 ?_)); simp only [WS, JA, JB, wI64, wU64, Int.reduceAdd, Int.reduceSub, Int.reduceMul, Int.reduceLE, Int.reduceLT, Int.reduceNeg, Int.reduceToNat, Int.cast_ofNat_Int, sx0, sx1, sx2, sx3, sx4, sx5, sx6, sx7, sy0, sy1, List.filterMap_cons, JC, JD, WT, JE, JF, JG, JH, JI, JJ, JK, WU, JL, JM, JN, JO, WV, JP, JQ, WW, JR, JS, JT, JU, JV, JW, JX, JY, JZ, WA, WB, WC, WD, WE, WF, WG, WH, WI, WJ, WK, WL, WM, WN, true_and, and_true, reduceCtorEq, ↓reduceIte, ↓bifT, ↓bifF, ↓gifT, ↓gifF, eq_self, WO, WP, WQ, Nat.reduceLT, Nat.reduceLeDiff, Nat.reduceAdd, Nat.reduceSub, Nat.reduceMul, Nat.reduceMod, WR, Nat.reduceBEq, Int.reduceBEq, Int.reduceBNe, BEq.rfl, finP_s, hnt, hT, hnt1, hT1, hU1P, bcells_append]; refine Done.out ?_)
    | (clear hN N; first | (refine hN _ ?_; clear hN N) | (clear hN N; first | (refine hN _ ?_; clear hN N) | (clear hN N; first | (refine hN _ ?_; clear hN N) | (clear hN N; first | (refine hN _ ?_; clear hN N) | (clear hN N; first | (refine hN _ ?_; clear hN N) | (refine hN _ ?_; clear hN N))))))
    | (refine bif2.mk (fun hb => ?_) (fun hb => ?_) <;> (try simp only [hb, WS, JA, JB, wI64, wU64, Int.reduceAdd, Int.reduceSub, Int.reduceMul, Int.reduceLE, Int.reduceLT, Int.reduceNeg, Int.reduceToNat, Int.cast_ofNat_Int, sx0, sx1, sx2, sx3, sx4, sx5, sx6, sx7, sy0, sy1, List.filterMap_cons, JC, JD, WT, JE, JF, JG, JH, JI, JJ, JK, WU, JL, JM, JN, JO, WV, JP, JQ, WW, JR, JS, JT, JU, JV, JW, JX, JY, JZ, WA, WB, WC, WD, WE, WF, WG, WH, WI, WJ, WK, WL, WM, WN, true_and, and_true, reduceCtorEq, ↓reduceIte, ↓bifT, ↓bifF, ↓gifT, ↓gifF, eq_self, WO, WP, WQ, Nat.reduceLT, Nat.reduceLeDiff, Nat.reduceAdd, Nat.reduceSub, Nat.reduceMul, Nat.reduceMod, WR, Nat.reduceBEq, Int.reduceBEq, Int.reduceBNe, BEq.rfl, hnt, hT, hnt1, hT1, hU1P, bcells_append]) <;> ((first | cases hb | (simp only [decide_eq_true_eq, decide_eq_false_iff_not, beq_iff_eq, beq_eq_false_iff_ne, bne_iff_ne, Bool.and_eq_true, Bool.or_eq_true, Bool.not_eq_true', Bool.not_eq_false', Bool.and_eq_false_iff, Bool.or_eq_false_iff, Int.not_lt, Int.not_le] at hb) | skip) <;> (first | (exfalso; omega) | skip)))
    | (refine CallVC.inline (f := 122) ?_ rfl Tryd.ntmps122 rfl ?_ ?_; (focus rw [hP]; exact Tryd.func122); (focus simp); have hT1 : fieldOff X.P 121 0 = some 0 ∧ aggOf X.P 119 = some false ∧ szOf X.P 119 = some 1 ∧ X.P.underlying 119 = some (TypeDesc.pointer 121) ∧ X.P.underlying 211 = some TypeDesc.unsafePointer ∧ isBytesT X.P 119 = false ∧ isStrT X.P 211 = false ∧ calleeOk X.P 150 = false ∧ isBytesT X.P 211 = false ∧ isStrT X.P 119 = false := (by rw [hP]; exact ⟨Ty.fo121_0, Ty.ag119, Ty.sz119, Tryd.underlying119, Tryd.underlying211, Ty.ib119, Ty.is211, Ty.cx150, Ty.ib211, Ty.is119⟩); intro X1 K1 hU1 hnt1 hbl1 hK1; have hU1P := hU1.P; simp only [WS, JA, JB, wI64, wU64, Int.reduceAdd, Int.reduceSub, Int.reduceMul, Int.reduceLE, Int.reduceLT, Int.reduceNeg, Int.reduceToNat, Int.cast_ofNat_Int, sx0, sx1, sx2, sx3, sx4, sx5, sx6, sx7, sy0, sy1, List.filterMap_cons, JC, JD, WT, JE, JF, JG, JH, JI, JJ, JK, WU, JL, JM, JN, JO, WV, JP, JQ, WW, JR, JS, JT, JU, JV, JW, JX, JY, JZ, WA, WB, WC, WD, WE, WF, WG, WH, WI, WJ, WK, WL, WM, WN, true_and, and_true, reduceCtorEq, ↓reduceIte, ↓bifT, ↓bifF, ↓gifT, ↓gifF, eq_self, WO, WP, WQ, Nat.reduceLT, Nat.reduceLeDiff, Nat.reduceAdd, Nat.reduceSub, Nat.reduceMul, Nat.reduceMod, WR, Nat.reduceBEq, Int.reduceBEq, Int.reduceBNe, BEq.rfl] at hbl1 ⊢)
    | (refine VO.toUnsafe (src := 119) (t := 121) rfl (by rw [hU1P, hP]; kernel_rfl) (by rw [hU1P, hP]; kernel_rfl) (n := 1) (by rw [hU1P, hP]; kernel_rfl) rfl (by decide) ?_; simp only [WS, JA, JB, wI64, wU64, Int.reduceAdd, Int.reduceSub, Int.reduceMul, Int.reduceLE, Int.reduceLT, Int.reduceNeg, Int.reduceToNat, Int.cast_ofNat_Int, sx0, sx1, sx2, sx3, sx4, sx5, sx6, sx7, sy0, sy1, List.filterMap_cons, JC, JD, WT, JE, JF, JG, JH, JI, JJ, JK, WU, JL, JM, JN, JO, WV, JP, JQ, WW, JR, JS, JT, JU, JV, JW, JX, JY, JZ, WA, WB, WC, WD, WE, WF, WG, WH, WI, WJ, WK, WL, WM, WN, true_and, and_true, reduceCtorEq, ↓reduceIte, ↓bifT, ↓bifF, ↓gifT, ↓gifF, eq_self, WO, WP, WQ, Nat.reduceLT, Nat.reduceLeDiff, Nat.reduceAdd, Nat.reduceSub, Nat.reduceMul, Nat.reduceMod, WR, Nat.reduceBEq, Int.reduceBEq, Int.reduceBNe, BEq.rfl, hnt, hnt1, hT, hT1, hU1P])
    | (refine VO.same rfl (noEscape_run (hU1P.trans hP)) ?_; simp only [WS, JA, JB, wI64, wU64, Int.reduceAdd, Int.reduceSub, Int.reduceMul, Int.reduceLE, Int.reduceLT, Int.reduceNeg, Int.reduceToNat, Int.cast_ofNat_Int, sx0, sx1, sx2, sx3, sx4, sx5, sx6, sx7, sy0, sy1, List.filterMap_cons, JC, JD, WT, JE, JF, JG, JH, JI, JJ, JK, WU, JL, JM, JN, JO, WV, JP, JQ, WW, JR, JS, JT, JU, JV, JW, JX, JY, JZ, WA, WB, WC, WD, WE, WF, WG, WH, WI, WJ, WK, WL, WM, WN, true_and, and_true, reduceCtorEq, ↓reduceIte, ↓bifT, ↓bifF, ↓gifT, ↓gifF, eq_self, WO, WP, WQ, Nat.reduceLT, Nat.reduceLeDiff, Nat.reduceAdd, Nat.reduceSub, Nat.reduceMul, Nat.reduceMod, WR, Nat.reduceBEq, Int.reduceBEq, Int.reduceBNe, BEq.rfl, hnt, hnt1, hT, hT1, hU1P])
    | (refine VO.fromUnsafe (src := 211) (u := 121) rfl (by rw [hU1P, hP]; kernel_rfl) (by rw [hU1P, hP]; kernel_rfl) (n := 2) (by rw [hU1P, hP]; kernel_rfl) rfl (by rw [hU1P, hP]; kernel_rfl) ?_; simp only [WS, JA, JB, wI64, wU64, Int.reduceAdd, Int.reduceSub, Int.reduceMul, Int.reduceLE, Int.reduceLT, Int.reduceNeg, Int.reduceToNat, Int.cast_ofNat_Int, sx0, sx1, sx2, sx3, sx4, sx5, sx6, sx7, sy0, sy1, List.filterMap_cons, JC, JD, WT, JE, JF, JG, JH, JI, JJ, JK, WU, JL, JM, JN, JO, WV, JP, JQ, WW, JR, JS, JT, JU, JV, JW, JX, JY, JZ, WA, WB, WC, WD, WE, WF, WG, WH, WI, WJ, WK, WL, WM, WN, true_and, and_true, reduceCtorEq, ↓reduceIte, ↓bifT, ↓bifF, ↓gifT, ↓gifF, eq_self, WO, WP, WQ, Nat.reduceLT, Nat.reduceLeDiff, Nat.reduceAdd, Nat.reduceSub, Nat.reduceMul, Nat.reduceMod, WR, Nat.reduceBEq, Int.reduceBEq, Int.reduceBNe, BEq.rfl, hnt, hnt1, hT, hT1, hU1P])
    | (refine VO.ptrNil (e := 121) rfl rfl (by rw [hU1P, hP]; kernel_rfl) ?_; simp only [WS, JA, JB, wI64, wU64, Int.reduceAdd, Int.reduceSub, Int.reduceMul, Int.reduceLE, Int.reduceLT, Int.reduceNeg, Int.reduceToNat, Int.cast_ofNat_Int, sx0, sx1, sx2, sx3, sx4, sx5, sx6, sx7, sy0, sy1, List.filterMap_cons, JC, JD, WT, JE, JF, JG, JH, JI, JJ, JK, WU, JL, JM, JN, JO, WV, JP, JQ, WW, JR, JS, JT, JU, JV, JW, JX, JY, JZ, WA, WB, WC, WD, WE, WF, WG, WH, WI, WJ, WK, WL, WM, WN, true_and, and_true, reduceCtorEq, ↓reduceIte, ↓bifT, ↓bifF, ↓gifT, ↓gifF, eq_self, WO, WP, WQ, Nat.reduceLT, Nat.reduceLeDiff, Nat.reduceAdd, Nat.reduceSub, Nat.reduceMul, Nat.reduceMod, WR, Nat.reduceBEq, Int.reduceBEq, Int.reduceBNe, BEq.rfl, hnt, hnt1, hT, hT1, hU1P])
    | (refine VO.ptrSame (e := 121) (n := 2) rfl rfl (by rw [hU1P, hP]; kernel_rfl) (by rw [hU1P, hP]; kernel_rfl) ?_; simp only [WS, JA, JB, wI64, wU64, Int.reduceAdd, Int.reduceSub, Int.reduceMul, Int.reduceLE, Int.reduceLT, Int.reduceNeg, Int.reduceToNat, Int.cast_ofNat_Int, sx0, sx1, sx2, sx3, sx4, sx5, sx6, sx7, sy0, sy1, List.filterMap_cons, JC, JD, WT, JE, JF, JG, JH, JI, JJ, JK, WU, JL, JM, JN, JO, WV, JP, JQ, WW, JR, JS, JT, JU, JV, JW, JX, JY, JZ, WA, WB, WC, WD, WE, WF, WG, WH, WI, WJ, WK, WL, WM, WN, true_and, and_true, reduceCtorEq, ↓reduceIte, ↓bifT, ↓bifF, ↓gifT, ↓gifF, eq_self, WO, WP, WQ, Nat.reduceLT, Nat.reduceLeDiff, Nat.reduceAdd, Nat.reduceSub, Nat.reduceMul, Nat.reduceMod, WR, Nat.reduceBEq, Int.reduceBEq, Int.reduceBNe, BEq.rfl, hnt, hnt1, hT, hT1, hU1P])
    | (refine SX.block ?_)
    | (refine and_mk ?_ ?_; (focus first | decide | omega | rfl | assumption | (simp only [List.length_append, List.length_cons, List.length_nil, B_size]; omega) | (simp; done)))
    | (refine And.intro ?_ ?_))
  all_goals (try refine Done.mk ?_)
  all_goals (rw [← bcells_append]; exact hN0 _ _ ⟨rfl, rfl⟩)
end Go.Proofs.YtbdacbcpniegiaaDoor
namespace Go.Proofs.YtbdacbcpniegiaaDoor
open Go Go.RowKit Go.Proofs Go.Sx
set_option maxHeartbeats 4000000
set_option maxRecDepth 100000
set_option linter.unusedSimpArgs false
set_option linter.unusedVariables false
def numB (num n : Nat) : List UInt8 := NW.varint (num * 8) ++ NW.varint n
def textB (num : Nat) (s : List UInt8) : List UInt8 := NW.varint (num * 8 + 2) ++ NW.varint s.length ++ s
theorem put_num (num n : Nat) (h1 : 1 ≤ num) (h2 : num < 536870912) (hn : n < 18446744073709551616) (w : World) :
    Calls Tryd.prog 74 #[.agg #[.int .i64 num, .int .i64 0, .int .u64 n, .string (B [])]] w fun e w' => e = .returned (.tuple #[.string (B (numB num n)), .bool true]) ∧ Below w.heap.size w w' := by
  have g1 : decide ((num : Int) < 1) = false := by simp; omega
  have g2 : decide ((536870912 : Int) ≤ num) = false := by simp; omega
  have hl1 := NW.varint_len10 (n := num * 8) (by omega)
  have hl2 := NW.varint_len10 (n := n) (by omega)
  have e1 : IntKind.u64.wrap (IntKind.i64.wrap (IntKind.i64.wrap ((num : Int) * 8) + 0)) = ((num * 8 : Nat) : Int) := by
    rw [wI64 (x := (num : Int) * 8) (by omega) (by omega), wI64 (by omega) (by omega), wU64 (by omega) (by omega)]; omega
  refine calls_pureK (args := [.agg #[.int .i64 num, .int .i64 0, .int .u64 n, .string (B [])]]) w Tryd.func74 rfl Tryd.ntmps74 (by simp) ?_
  intro X K hX hK
  have hnt : X.nt = 81 := by rw [hX]
  have hwi : X.wi = w := by rw [hX]
  have hP : X.P = Tryd.prog := by rw [hX]
  have hown : X.own = [] := by rw [hX]
  have hbl : X.base.length = 0 := by rw [hX]; rfl
  clear hX
  have hT : fieldOff X.P 143 0 = some 0 ∧ aggOf X.P 3 = some false ∧ szOf X.P 3 = some 1 ∧ fieldOff X.P 143 1 = some 1 ∧ fieldOff X.P 143 2 = some 2 ∧ aggOf X.P 22 = some false ∧ szOf X.P 22 = some 1 ∧ calleeOk X.P 127 = true ∧ mapInf X.P 174 = some ((TypeDesc.int IntKind.i64), (Value.int IntKind.i64 0)) ∧ fieldOff X.P 143 3 = some 3 ∧ aggOf X.P 9 = some false ∧ szOf X.P 9 = some 1 ∧ X.P.underlying 9 = some TypeDesc.string ∧ X.P.underlying 3 = some (TypeDesc.int IntKind.i64) ∧ X.P.underlying 22 = some (TypeDesc.int IntKind.u64) ∧ isBytesT X.P 3 = false ∧ isStrT X.P 22 = false ∧ calleeOk X.P 128 = true := by rw [hP]; exact ⟨Ty.fo143_0, Ty.ag3, Ty.sz3, Ty.fo143_1, Ty.fo143_2, Ty.ag22, Ty.sz22, Ty.co127, Ty.mi174, Ty.fo143_3, Ty.ag9, Ty.sz9, Tryd.underlying9, Tryd.underlying3, Tryd.underlying22, Ty.ib3, Ty.is22, Ty.co128⟩
  have hnt1 := True.intro; have hT1 := True.intro; have hU1P := True.intro
  repeat' (first
    | (refine SX.seqK ?_; intro N hN)
    | ((first | (refine SX.ops ?_)); simp only [WS, JA, JB, wI64, wU64, Int.reduceAdd, Int.reduceSub, Int.reduceMul, Int.reduceLE, Int.reduceLT, Int.reduceNeg, Int.reduceToNat, Int.cast_ofNat_Int, sx0, sx1, sx2, sx3, sx4, sx5, sx6, sx7, sy0, sy1, List.filterMap_cons, JC, JD, WT, JE, JF, JG, JH, JI, JJ, JK, WU, JL, JM, JN, JO, WV, JP, JQ, WW, JR, JS, JT, JU, JV, JW, JX, JY, JZ, WA, WB, WC, WD, WE, WF, WG, WH, WI, WJ, WK, WL, WM, WN, true_and, and_true, reduceCtorEq, ↓reduceIte, ↓bifT, ↓bifF, ↓gifT, ↓gifF, eq_self, WO, WP, WQ, Nat.reduceLT, Nat.reduceLeDiff, Nat.reduceAdd, Nat.reduceSub, Nat.reduceMul, Nat.reduceMod, WR, Nat.reduceBEq, Int.reduceBEq, Int.reduceBNe, BEq.rfl, hnt, hT, hnt1, hT1, hU1P, g1, g2, e1])
    | ((first | refine SX.skip ?_ | refine SX.exit ?_ | refine SX.label ?_); try simp only [WS, JA, JB, wI64, wU64, Int.reduceAdd, Int.reduceSub, Int.reduceMul, Int.reduceLE, Int.reduceLT, Int.reduceNeg, Int.reduceToNat, Int.cast_ofNat_Int, sx0, sx1, sx2, sx3, sx4, sx5, sx6, sx7, sy0, sy1, List.filterMap_cons, JC, JD, WT, JE, JF, JG, JH, JI, JJ, JK, WU, JL, JM, JN, JO, WV, JP, JQ, WW, JR, JS, JT, JU, JV, JW, JX, JY, JZ, WA, WB, WC, WD, WE, WF, WG, WH, WI, WJ, WK, WL, WM, WN, true_and, and_true, reduceCtorEq, ↓reduceIte, ↓bifT, ↓bifF, ↓gifT, ↓gifF, eq_self, WO, WP, WQ, Nat.reduceLT, Nat.reduceLeDiff, Nat.reduceAdd, Nat.reduceSub, Nat.reduceMul, Nat.reduceMod, WR, Nat.reduceBEq, Int.reduceBEq, Int.reduceBNe, BEq.rfl])
    | (refine SX.cond rfl (fun hb => ?_) (fun hb => ?_) <;> ((first | cases hb | (simp only [decide_eq_true_eq, decide_eq_false_iff_not, beq_iff_eq, beq_eq_false_iff_ne, bne_iff_ne, Bool.and_eq_true, Bool.or_eq_true, Bool.not_eq_true', Bool.not_eq_false', Bool.and_eq_false_iff, Bool.or_eq_false_iff, Int.not_lt, Int.not_le] at hb) | skip) <;> (first | (exfalso; omega) | skip)))
    | (refine SX.ret ?_; try simp only [WS, JA, JB, wI64, wU64, Int.reduceAdd, Int.reduceSub, Int.reduceMul, Int.reduceLE, Int.reduceLT, Int.reduceNeg, Int.reduceToNat, Int.cast_ofNat_Int, sx0, sx1, sx2, sx3, sx4, sx5, sx6, sx7, sy0, sy1, List.filterMap_cons, JC, JD, WT, JE, JF, JG, JH, JI, JJ, JK, WU, JL, JM, JN, JO, WV, JP, JQ, WW, JR, JS, JT, JU, JV, JW, JX, JY, JZ, WA, WB, WC, WD, WE, WF, WG, WH, WI, WJ, WK, WL, WM, WN, true_and, and_true, reduceCtorEq, ↓reduceIte, ↓bifT, ↓bifF, ↓gifT, ↓gifF, eq_self, WO, WP, WQ, Nat.reduceLT, Nat.reduceLeDiff, Nat.reduceAdd, Nat.reduceSub, Nat.reduceMul, Nat.reduceMod, WR, Nat.reduceBEq, Int.reduceBEq, Int.reduceBNe, BEq.rfl])
    | (refine hN _ ?_; clear hN N)
    | ((first | refine hK1 _ _ (FinI.ret3 ?_) | refine hK1 _ _ (FinI.nrm3 ?_)); (repeat (clear hN N)); clear hK1 K1; simp only [WS, JA, JB, wI64, wU64, Int.reduceAdd, Int.reduceSub, Int.reduceMul, Int.reduceLE, Int.reduceLT, Int.reduceNeg, Int.reduceToNat, Int.cast_ofNat_Int, sx0, sx1, sx2, sx3, sx4, sx5, sx6, sx7, sy0, sy1, List.filterMap_cons, JC, JD, WT, JE, JF, JG, JH, JI, JJ, JK, WU, JL, JM, JN, JO, WV, JP, JQ, WW, JR, JS, JT, JU, JV, JW, JX, JY, JZ, WA, WB, WC, WD, WE, WF, WG, WH, WI, WJ, WK, WL, WM, WN, true_and, and_true, reduceCtorEq, ↓reduceIte, ↓bifT, ↓bifF, ↓gifT, ↓gifF, eq_self, WO, WP, WQ, Nat.reduceLT, Nat.reduceLeDiff, Nat.reduceAdd, Nat.reduceSub, Nat.reduceMul, Nat.reduceMod, WR, Nat.reduceBEq, Int.reduceBEq, Int.reduceBNe, BEq.rfl, finP_s, hnt, hT, hnt1, hT1, hU1P, g1, g2, e1])
    | (refine hK _ _ (Fin.res rfl hown ?_); simp only [WS, JA, JB, wI64, wU64, Int.reduceAdd, Int.reduceSub, Int.reduceMul, Int.reduceLE, Int.reduceLT, Int.reduceNeg, Int.reduceToNat, Int.cast_ofNat_Int, sx0, sx1, sx2, sx3, sx4, sx5, sx6, sx7, sy0, sy1, List.filterMap_cons, JC, JD, WT, JE, JF, JG, JH, JI, JJ, JK, WU, JL, JM, JN, JO, WV, JP, JQ, WW, JR, JS, JT, JU, JV, JW, JX, JY, JZ, WA, WB, WC, WD, WE, WF, WG, WH, WI, WJ, WK, WL, WM, WN, true_and, and_true, reduceCtorEq, ↓reduceIte, ↓bifT, ↓bifF, ↓gifT, ↓gifF, eq_self, WO, WP, WQ, Nat.reduceLT, Nat.reduceLeDiff, Nat.reduceAdd, Nat.reduceSub, Nat.reduceMul, Nat.reduceMod, WR, Nat.reduceBEq, Int.reduceBEq, Int.reduceBNe, BEq.rfl, f_a, f_b, f_n, f_c, f_B, f_v, f_g, f_0, f_1, f_2, hT, hwi, hnt1, hT1, hU1P, g1, g2, e1]; intro w' hbel; refine Done.out ?_)
    | (clear hN N; first | (refine hN _ ?_; clear hN N) | (clear hN N; first | (refine hN _ ?_; clear hN N) | (clear hN N; first | (refine hN _ ?_; clear hN N) | (clear hN N; first | (refine hN _ ?_; clear hN N) | (clear hN N; first | (refine hN _ ?_; clear hN N) | (refine hN _ ?_; clear hN N))))))
    | (refine bif2.mk (fun hb => ?_) (fun hb => ?_) <;> (try simp only [hb, WS, JA, JB, wI64, wU64, Int.reduceAdd, Int.reduceSub, Int.reduceMul, Int.reduceLE, Int.reduceLT, Int.reduceNeg, Int.reduceToNat, Int.cast_ofNat_Int, sx0, sx1, sx2, sx3, sx4, sx5, sx6, sx7, sy0, sy1, List.filterMap_cons, JC, JD, WT, JE, JF, JG, JH, JI, JJ, JK, WU, JL, JM, JN, JO, WV, JP, JQ, WW, JR, JS, JT, JU, JV, JW, JX, JY, JZ, WA, WB, WC, WD, WE, WF, WG, WH, WI, WJ, WK, WL, WM, WN, true_and, and_true, reduceCtorEq, ↓reduceIte, ↓bifT, ↓bifF, ↓gifT, ↓gifF, eq_self, WO, WP, WQ, Nat.reduceLT, Nat.reduceLeDiff, Nat.reduceAdd, Nat.reduceSub, Nat.reduceMul, Nat.reduceMod, WR, Nat.reduceBEq, Int.reduceBEq, Int.reduceBNe, BEq.rfl, hnt, hT, hnt1, hT1, hU1P, g1, g2, e1]) <;> ((first | cases hb | (simp only [decide_eq_true_eq, decide_eq_false_iff_not, beq_iff_eq, beq_eq_false_iff_ne, bne_iff_ne, Bool.and_eq_true, Bool.or_eq_true, Bool.not_eq_true', Bool.not_eq_false', Bool.and_eq_false_iff, Bool.or_eq_false_iff, Int.not_lt, Int.not_le] at hb) | skip) <;> (first | (exfalso; omega) | skip)))
    | ((first | (refine CallVC.pv hP (varint_any (num * 8) (by omega)) rfl ?_) | (refine CallQ.pv hP (varint_any (num * 8) (by omega)) rfl ?_) | (refine CallVC.pv hP (varint_any n hn) rfl ?_) | (refine CallQ.pv hP (varint_any n hn) rfl ?_)); simp only [WS, JA, JB, wI64, wU64, Int.reduceAdd, Int.reduceSub, Int.reduceMul, Int.reduceLE, Int.reduceLT, Int.reduceNeg, Int.reduceToNat, Int.cast_ofNat_Int, sx0, sx1, sx2, sx3, sx4, sx5, sx6, sx7, sy0, sy1, List.filterMap_cons, JC, JD, WT, JE, JF, JG, JH, JI, JJ, JK, WU, JL, JM, JN, JO, WV, JP, JQ, WW, JR, JS, JT, JU, JV, JW, JX, JY, JZ, WA, WB, WC, WD, WE, WF, WG, WH, WI, WJ, WK, WL, WM, WN, true_and, and_true, reduceCtorEq, ↓reduceIte, ↓bifT, ↓bifF, ↓gifT, ↓gifF, eq_self, WO, WP, WQ, Nat.reduceLT, Nat.reduceLeDiff, Nat.reduceAdd, Nat.reduceSub, Nat.reduceMul, Nat.reduceMod, WR, Nat.reduceBEq, Int.reduceBEq, Int.reduceBNe, BEq.rfl, hnt, hT, hnt1, hT1, hU1P, g1, g2, e1])
    | (refine CallVC.inline (f := 127) ?_ rfl Tryd.ntmps127 rfl ?_ ?_; (focus rw [hP]; exact Tryd.func127); (focus simp); have hT1 : mapInf X.P 174 = some ((TypeDesc.int IntKind.i64), (Value.int IntKind.i64 0)) := (by rw [hP]; exact Ty.mi174); intro X1 K1 hU1 hnt1 hbl1 hK1; have hU1P := hU1.P; simp only [WS, JA, JB, wI64, wU64, Int.reduceAdd, Int.reduceSub, Int.reduceMul, Int.reduceLE, Int.reduceLT, Int.reduceNeg, Int.reduceToNat, Int.cast_ofNat_Int, sx0, sx1, sx2, sx3, sx4, sx5, sx6, sx7, sy0, sy1, List.filterMap_cons, JC, JD, WT, JE, JF, JG, JH, JI, JJ, JK, WU, JL, JM, JN, JO, WV, JP, JQ, WW, JR, JS, JT, JU, JV, JW, JX, JY, JZ, WA, WB, WC, WD, WE, WF, WG, WH, WI, WJ, WK, WL, WM, WN, true_and, and_true, reduceCtorEq, ↓reduceIte, ↓bifT, ↓bifF, ↓gifT, ↓gifF, eq_self, WO, WP, WQ, Nat.reduceLT, Nat.reduceLeDiff, Nat.reduceAdd, Nat.reduceSub, Nat.reduceMul, Nat.reduceMod, WR, Nat.reduceBEq, Int.reduceBEq, Int.reduceBNe, BEq.rfl] at hbl1 ⊢)
    | ((first | (refine CallVC.pv (hU1P.trans hP) (varint_any (num * 8) (by omega)) rfl ?_) | (refine CallQ.pv (hU1P.trans hP) (varint_any (num * 8) (by omega)) rfl ?_) | (refine CallVC.pv (hU1P.trans hP) (varint_any n hn) rfl ?_) | (refine CallQ.pv (hU1P.trans hP) (varint_any n hn) rfl ?_)); simp only [WS, JA, JB, wI64, wU64, Int.reduceAdd, Int.reduceSub, Int.reduceMul, Int.reduceLE, Int.reduceLT, Int.reduceNeg, Int.reduceToNat, Int.cast_ofNat_Int, sx0, sx1, sx2, sx3, sx4, sx5, sx6, sx7, sy0, sy1, List.filterMap_cons, JC, JD, WT, JE, JF, JG, JH, JI, JJ, JK, WU, JL, JM, JN, JO, WV, JP, JQ, WW, JR, JS, JT, JU, JV, JW, JX, JY, JZ, WA, WB, WC, WD, WE, WF, WG, WH, WI, WJ, WK, WL, WM, WN, true_and, and_true, reduceCtorEq, ↓reduceIte, ↓bifT, ↓bifF, ↓gifT, ↓gifF, eq_self, WO, WP, WQ, Nat.reduceLT, Nat.reduceLeDiff, Nat.reduceAdd, Nat.reduceSub, Nat.reduceMul, Nat.reduceMod, WR, Nat.reduceBEq, Int.reduceBEq, Int.reduceBNe, BEq.rfl, hnt, hT, hnt1, hT1, hU1P, g1, g2, e1])
    | (refine SX.block ?_)
    | (refine and_mk ?_ ?_; (focus first | decide | omega | rfl | assumption | (simp only [List.length_append, List.length_cons, List.length_nil, B_size]; omega) | (simp; done)))
    | (refine And.intro ?_ ?_))
  all_goals (try refine Done.mk ?_)
  all_goals first | exact hbel | exact ⟨by simp [numB], hbel⟩
theorem put_text (num : Nat) (s : List UInt8) (h1 : 1 ≤ num) (h2 : num < 536870912) (hs : s.length < 1152921504606846976) (w : World) :
    Calls Tryd.prog 74 #[.agg #[.int .i64 num, .int .i64 2, .int .u64 0, .string (B s)]] w fun e w' => e = .returned (.tuple #[.string (B (textB num s)), .bool true]) ∧ Below w.heap.size w w' := by
  have g1 : decide ((num : Int) < 1) = false := by simp; omega
  have g2 : decide ((536870912 : Int) ≤ num) = false := by simp; omega
  have hl1 := NW.varint_len10 (n := num * 8 + 2) (by omega)
  have hl2 := NW.varint_len10 (n := s.length) (by omega)
  have e1 : IntKind.u64.wrap (IntKind.i64.wrap (IntKind.i64.wrap ((num : Int) * 8) + 2)) = ((num * 8 + 2 : Nat) : Int) := by
    rw [wI64 (x := (num : Int) * 8) (by omega) (by omega), wI64 (by omega) (by omega), wU64 (by omega) (by omega)]; omega
  have e2 : IntKind.u64.wrap (s.length : Int) = (s.length : Int) := wU64 (by omega) (by omega)
  refine calls_pureK (args := [.agg #[.int .i64 num, .int .i64 2, .int .u64 0, .string (B s)]]) w Tryd.func74 rfl Tryd.ntmps74 (by simp) ?_
  intro X K hX hK
  have hnt : X.nt = 81 := by rw [hX]
  have hwi : X.wi = w := by rw [hX]
  have hP : X.P = Tryd.prog := by rw [hX]
  have hown : X.own = [] := by rw [hX]
  have hbl : X.base.length = 0 := by rw [hX]; rfl
  clear hX
  have hT : fieldOff X.P 143 0 = some 0 ∧ aggOf X.P 3 = some false ∧ szOf X.P 3 = some 1 ∧ fieldOff X.P 143 1 = some 1 ∧ fieldOff X.P 143 2 = some 2 ∧ aggOf X.P 22 = some false ∧ szOf X.P 22 = some 1 ∧ calleeOk X.P 127 = true ∧ mapInf X.P 174 = some ((TypeDesc.int IntKind.i64), (Value.int IntKind.i64 0)) ∧ fieldOff X.P 143 3 = some 3 ∧ aggOf X.P 9 = some false ∧ szOf X.P 9 = some 1 ∧ X.P.underlying 9 = some TypeDesc.string ∧ X.P.underlying 3 = some (TypeDesc.int IntKind.i64) ∧ X.P.underlying 22 = some (TypeDesc.int IntKind.u64) ∧ isBytesT X.P 3 = false ∧ isStrT X.P 22 = false ∧ calleeOk X.P 128 = true := by rw [hP]; exact ⟨Ty.fo143_0, Ty.ag3, Ty.sz3, Ty.fo143_1, Ty.fo143_2, Ty.ag22, Ty.sz22, Ty.co127, Ty.mi174, Ty.fo143_3, Ty.ag9, Ty.sz9, Tryd.underlying9, Tryd.underlying3, Tryd.underlying22, Ty.ib3, Ty.is22, Ty.co128⟩
  have hnt1 := True.intro; have hT1 := True.intro; have hU1P := True.intro
  repeat' (first
    | (refine SX.seqK ?_; intro N hN)
    | ((first | (refine SX.ops ?_)); simp only [WS, JA, JB, wI64, wU64, Int.reduceAdd, Int.reduceSub, Int.reduceMul, Int.reduceLE, Int.reduceLT, Int.reduceNeg, Int.reduceToNat, Int.cast_ofNat_Int, sx0, sx1, sx2, sx3, sx4, sx5, sx6, sx7, sy0, sy1, List.filterMap_cons, JC, JD, WT, JE, JF, JG, JH, JI, JJ, JK, WU, JL, JM, JN, JO, WV, JP, JQ, WW, JR, JS, JT, JU, JV, JW, JX, JY, JZ, WA, WB, WC, WD, WE, WF, WG, WH, WI, WJ, WK, WL, WM, WN, true_and, and_true, reduceCtorEq, ↓reduceIte, ↓bifT, ↓bifF, ↓gifT, ↓gifF, eq_self, WO, WP, WQ, Nat.reduceLT, Nat.reduceLeDiff, Nat.reduceAdd, Nat.reduceSub, Nat.reduceMul, Nat.reduceMod, WR, Nat.reduceBEq, Int.reduceBEq, Int.reduceBNe, BEq.rfl, hnt, hT, hnt1, hT1, hU1P, g1, g2, e1, e2])
    | ((first | refine SX.skip ?_ | refine SX.exit ?_ | refine SX.label ?_); try simp only [WS, JA, JB, wI64, wU64, Int.reduceAdd, Int.reduceSub, Int.reduceMul, Int.reduceLE, Int.reduceLT, Int.reduceNeg, Int.reduceToNat, Int.cast_ofNat_Int, sx0, sx1, sx2, sx3, sx4, sx5, sx6, sx7, sy0, sy1, List.filterMap_cons, JC, JD, WT, JE, JF, JG, JH, JI, JJ, JK, WU, JL, JM, JN, JO, WV, JP, JQ, WW, JR, JS, JT, JU, JV, JW, JX, JY, JZ, WA, WB, WC, WD, WE, WF, WG, WH, WI, WJ, WK, WL, WM, WN, true_and, and_true, reduceCtorEq, ↓reduceIte, ↓bifT, ↓bifF, ↓gifT, ↓gifF, eq_self, WO, WP, WQ, Nat.reduceLT, Nat.reduceLeDiff, Nat.reduceAdd, Nat.reduceSub, Nat.reduceMul, Nat.reduceMod, WR, Nat.reduceBEq, Int.reduceBEq, Int.reduceBNe, BEq.rfl])
    | (refine SX.cond rfl (fun hb => ?_) (fun hb => ?_) <;> ((first | cases hb | (simp only [decide_eq_true_eq, decide_eq_false_iff_not, beq_iff_eq, beq_eq_false_iff_ne, bne_iff_ne, Bool.and_eq_true, Bool.or_eq_true, Bool.not_eq_true', Bool.not_eq_false', Bool.and_eq_false_iff, Bool.or_eq_false_iff, Int.not_lt, Int.not_le] at hb) | skip) <;> (first | (exfalso; omega) | skip)))
    | (refine SX.ret ?_; try simp only [WS, JA, JB, wI64, wU64, Int.reduceAdd, Int.reduceSub, Int.reduceMul, Int.reduceLE, Int.reduceLT, Int.reduceNeg, Int.reduceToNat, Int.cast_ofNat_Int, sx0, sx1, sx2, sx3, sx4, sx5, sx6, sx7, sy0, sy1, List.filterMap_cons, JC, JD, WT, JE, JF, JG, JH, JI, JJ, JK, WU, JL, JM, JN, JO, WV, JP, JQ, WW, JR, JS, JT, JU, JV, JW, JX, JY, JZ, WA, WB, WC, WD, WE, WF, WG, WH, WI, WJ, WK, WL, WM, WN, true_and, and_true, reduceCtorEq, ↓reduceIte, ↓bifT, ↓bifF, ↓gifT, ↓gifF, eq_self, WO, WP, WQ, Nat.reduceLT, Nat.reduceLeDiff, Nat.reduceAdd, Nat.reduceSub, Nat.reduceMul, Nat.reduceMod, WR, Nat.reduceBEq, Int.reduceBEq, Int.reduceBNe, BEq.rfl])
    | (refine hN _ ?_; clear hN N)
    | ((first | refine hK1 _ _ (FinI.ret3 ?_) | refine hK1 _ _ (FinI.nrm3 ?_)); (repeat (clear hN N)); clear hK1 K1; simp only [WS, JA, JB, wI64, wU64, Int.reduceAdd, Int.reduceSub, Int.reduceMul, Int.reduceLE, Int.reduceLT, Int.reduceNeg, Int.reduceToNat, Int.cast_ofNat_Int, sx0, sx1, sx2, sx3, sx4, sx5, sx6, sx7, sy0, sy1, List.filterMap_cons, JC, JD, WT, JE, JF, JG, JH, JI, JJ, JK, WU, JL, JM, JN, JO, WV, JP, JQ, WW, JR, JS, JT, JU, JV, JW, JX, JY, JZ, WA, WB, WC, WD, WE, WF, WG, WH, WI, WJ, WK, WL, WM, WN, true_and, and_true, reduceCtorEq, ↓reduceIte, ↓bifT, ↓bifF, ↓gifT, ↓gifF, eq_self, WO, WP, WQ, Nat.reduceLT, Nat.reduceLeDiff, Nat.reduceAdd, Nat.reduceSub, Nat.reduceMul, Nat.reduceMod, WR, Nat.reduceBEq, Int.reduceBEq, Int.reduceBNe, BEq.rfl, finP_s, hnt, hT, hnt1, hT1, hU1P, g1, g2, e1, e2])
    | (refine hK _ _ (Fin.res rfl hown ?_); simp only [WS, JA, JB, wI64, wU64, Int.reduceAdd, Int.reduceSub, Int.reduceMul, Int.reduceLE, Int.reduceLT, Int.reduceNeg, Int.reduceToNat, Int.cast_ofNat_Int, sx0, sx1, sx2, sx3, sx4, sx5, sx6, sx7, sy0, sy1, List.filterMap_cons, JC, JD, WT, JE, JF, JG, JH, JI, JJ, JK, WU, JL, JM, JN, JO, WV, JP, JQ, WW, JR, JS, JT, JU, JV, JW, JX, JY, JZ, WA, WB, WC, WD, WE, WF, WG, WH, WI, WJ, WK, WL, WM, WN, true_and, and_true, reduceCtorEq, ↓reduceIte, ↓bifT, ↓bifF, ↓gifT, ↓gifF, eq_self, WO, WP, WQ, Nat.reduceLT, Nat.reduceLeDiff, Nat.reduceAdd, Nat.reduceSub, Nat.reduceMul, Nat.reduceMod, WR, Nat.reduceBEq, Int.reduceBEq, Int.reduceBNe, BEq.rfl, f_a, f_b, f_n, f_c, f_B, f_v, f_g, f_0, f_1, f_2, hT, hwi, hnt1, hT1, hU1P, g1, g2, e1, e2]; intro w' hbel; refine Done.out ?_)
    | (clear hN N; first | (refine hN _ ?_; clear hN N) | (clear hN N; first | (refine hN _ ?_; clear hN N) | (clear hN N; first | (refine hN _ ?_; clear hN N) | (clear hN N; first | (refine hN _ ?_; clear hN N) | (clear hN N; first | (refine hN _ ?_; clear hN N) | (refine hN _ ?_; clear hN N))))))
    | (refine bif2.mk (fun hb => ?_) (fun hb => ?_) <;> (try simp only [hb, WS, JA, JB, wI64, wU64, Int.reduceAdd, Int.reduceSub, Int.reduceMul, Int.reduceLE, Int.reduceLT, Int.reduceNeg, Int.reduceToNat, Int.cast_ofNat_Int, sx0, sx1, sx2, sx3, sx4, sx5, sx6, sx7, sy0, sy1, List.filterMap_cons, JC, JD, WT, JE, JF, JG, JH, JI, JJ, JK, WU, JL, JM, JN, JO, WV, JP, JQ, WW, JR, JS, JT, JU, JV, JW, JX, JY, JZ, WA, WB, WC, WD, WE, WF, WG, WH, WI, WJ, WK, WL, WM, WN, true_and, and_true, reduceCtorEq, ↓reduceIte, ↓bifT, ↓bifF, ↓gifT, ↓gifF, eq_self, WO, WP, WQ, Nat.reduceLT, Nat.reduceLeDiff, Nat.reduceAdd, Nat.reduceSub, Nat.reduceMul, Nat.reduceMod, WR, Nat.reduceBEq, Int.reduceBEq, Int.reduceBNe, BEq.rfl, hnt, hT, hnt1, hT1, hU1P, g1, g2, e1, e2]) <;> ((first | cases hb | (simp only [decide_eq_true_eq, decide_eq_false_iff_not, beq_iff_eq, beq_eq_false_iff_ne, bne_iff_ne, Bool.and_eq_true, Bool.or_eq_true, Bool.not_eq_true', Bool.not_eq_false', Bool.and_eq_false_iff, Bool.or_eq_false_iff, Int.not_lt, Int.not_le] at hb) | skip) <;> (first | (exfalso; omega) | skip)))
    | ((first | (refine CallVC.pv hP (varint_any (num * 8 + 2) (by omega)) rfl ?_) | (refine CallQ.pv hP (varint_any (num * 8 + 2) (by omega)) rfl ?_) | (refine CallVC.pv hP (varint_any s.length (by omega)) rfl ?_) | (refine CallQ.pv hP (varint_any s.length (by omega)) rfl ?_)); simp only [WS, JA, JB, wI64, wU64, Int.reduceAdd, Int.reduceSub, Int.reduceMul, Int.reduceLE, Int.reduceLT, Int.reduceNeg, Int.reduceToNat, Int.cast_ofNat_Int, sx0, sx1, sx2, sx3, sx4, sx5, sx6, sx7, sy0, sy1, List.filterMap_cons, JC, JD, WT, JE, JF, JG, JH, JI, JJ, JK, WU, JL, JM, JN, JO, WV, JP, JQ, WW, JR, JS, JT, JU, JV, JW, JX, JY, JZ, WA, WB, WC, WD, WE, WF, WG, WH, WI, WJ, WK, WL, WM, WN, true_and, and_true, reduceCtorEq, ↓reduceIte, ↓bifT, ↓bifF, ↓gifT, ↓gifF, eq_self, WO, WP, WQ, Nat.reduceLT, Nat.reduceLeDiff, Nat.reduceAdd, Nat.reduceSub, Nat.reduceMul, Nat.reduceMod, WR, Nat.reduceBEq, Int.reduceBEq, Int.reduceBNe, BEq.rfl, hnt, hT, hnt1, hT1, hU1P, g1, g2, e1, e2])
    | (refine CallVC.inline (f := 127) ?_ rfl Tryd.ntmps127 rfl ?_ ?_; (focus rw [hP]; exact Tryd.func127); (focus simp); have hT1 : mapInf X.P 174 = some ((TypeDesc.int IntKind.i64), (Value.int IntKind.i64 0)) := (by rw [hP]; exact Ty.mi174); intro X1 K1 hU1 hnt1 hbl1 hK1; have hU1P := hU1.P; simp only [WS, JA, JB, wI64, wU64, Int.reduceAdd, Int.reduceSub, Int.reduceMul, Int.reduceLE, Int.reduceLT, Int.reduceNeg, Int.reduceToNat, Int.cast_ofNat_Int, sx0, sx1, sx2, sx3, sx4, sx5, sx6, sx7, sy0, sy1, List.filterMap_cons, JC, JD, WT, JE, JF, JG, JH, JI, JJ, JK, WU, JL, JM, JN, JO, WV, JP, JQ, WW, JR, JS, JT, JU, JV, JW, JX, JY, JZ, WA, WB, WC, WD, WE, WF, WG, WH, WI, WJ, WK, WL, WM, WN, true_and, and_true, reduceCtorEq, ↓reduceIte, ↓bifT, ↓bifF, ↓gifT, ↓gifF, eq_self, WO, WP, WQ, Nat.reduceLT, Nat.reduceLeDiff, Nat.reduceAdd, Nat.reduceSub, Nat.reduceMul, Nat.reduceMod, WR, Nat.reduceBEq, Int.reduceBEq, Int.reduceBNe, BEq.rfl] at hbl1 ⊢)
    | ((first | (refine CallVC.pv (hU1P.trans hP) (varint_any (num * 8 + 2) (by omega)) rfl ?_) | (refine CallQ.pv (hU1P.trans hP) (varint_any (num * 8 + 2) (by omega)) rfl ?_) | (refine CallVC.pv (hU1P.trans hP) (varint_any s.length (by omega)) rfl ?_) | (refine CallQ.pv (hU1P.trans hP) (varint_any s.length (by omega)) rfl ?_)); simp only [WS, JA, JB, wI64, wU64, Int.reduceAdd, Int.reduceSub, Int.reduceMul, Int.reduceLE, Int.reduceLT, Int.reduceNeg, Int.reduceToNat, Int.cast_ofNat_Int, sx0, sx1, sx2, sx3, sx4, sx5, sx6, sx7, sy0, sy1, List.filterMap_cons, JC, JD, WT, JE, JF, JG, JH, JI, JJ, JK, WU, JL, JM, JN, JO, WV, JP, JQ, WW, JR, JS, JT, JU, JV, JW, JX, JY, JZ, WA, WB, WC, WD, WE, WF, WG, WH, WI, WJ, WK, WL, WM, WN, true_and, and_true, reduceCtorEq, ↓reduceIte, ↓bifT, ↓bifF, ↓gifT, ↓gifF, eq_self, WO, WP, WQ, Nat.reduceLT, Nat.reduceLeDiff, Nat.reduceAdd, Nat.reduceSub, Nat.reduceMul, Nat.reduceMod, WR, Nat.reduceBEq, Int.reduceBEq, Int.reduceBNe, BEq.rfl, hnt, hT, hnt1, hT1, hU1P, g1, g2, e1, e2])
    | (refine SX.block ?_)
    | (refine and_mk ?_ ?_; (focus first | decide | omega | rfl | assumption | (simp only [List.length_append, List.length_cons, List.length_nil, B_size]; omega) | (simp; done)))
    | (refine And.intro ?_ ?_))
  all_goals (try refine Done.mk ?_)
  all_goals first | exact hbel | exact ⟨by simp [textB], hbel⟩
theorem number_any (num n : Nat) (h1 : 1 ≤ num) (h2 : num < 536870912) (hn : n < 18446744073709551616) (w : World) :
    Calls Tryd.prog 23 #[.int .i64 num, .int .u64 n] w fun e w' => e = .returned (.string (B (numB num n))) ∧ Below w.heap.size w w' := by
  refine calls_pureK (args := [.int .i64 num, .int .u64 n]) w Tryd.func23 rfl Tryd.ntmps23 (by simp) ?_
  intro X K hX hK
  have hnt : X.nt = 15 := by rw [hX]
  have hwi : X.wi = w := by rw [hX]
  have hP : X.P = Tryd.prog := by rw [hX]
  have hown : X.own = [] := by rw [hX]
  have hbl : X.base.length = 0 := by rw [hX]; rfl
  clear hX
  have hT : fieldsOf X.P 143 = some [(0, 1), (1, 1), (2, 1), (3, 1)] ∧ zeroCells X.P 143 = some [(Value.int IntKind.i64 0), (Value.int IntKind.i64 0), (Value.int IntKind.u64 0), (Value.string { data := #[] })] ∧ calleeOk X.P 74 = true := by rw [hP]; exact ⟨Ty.fs143, Ty.ze143, Ty.co74⟩
  repeat' (first
    | (refine SX.seqK ?_; intro N hN)
    | ((first | (refine SX.ops ?_)); simp only [WS, JA, JB, wI64, wU64, Int.reduceAdd, Int.reduceSub, Int.reduceMul, Int.reduceLE, Int.reduceLT, Int.reduceNeg, Int.reduceToNat, Int.cast_ofNat_Int, sx0, sx1, sx2, sx3, sx4, sx5, sx6, sx7, sy0, sy1, List.filterMap_cons, JC, JD, WT, JE, JF, JG, JH, JI, JJ, JK, WU, JL, JM, JN, JO, WV, JP, JQ, WW, JR, JS, JT, JU, JV, JW, JX, JY, JZ, WA, WB, WC, WD, WE, WF, WG, WH, WI, WJ, WK, WL, WM, WN, true_and, and_true, reduceCtorEq, ↓reduceIte, ↓bifT, ↓bifF, ↓gifT, ↓gifF, eq_self, WO, WP, WQ, Nat.reduceLT, Nat.reduceLeDiff, Nat.reduceAdd, Nat.reduceSub, Nat.reduceMul, Nat.reduceMod, WR, Nat.reduceBEq, Int.reduceBEq, Int.reduceBNe, BEq.rfl, hnt, hT])
    | ((first | refine SX.skip ?_ | refine SX.exit ?_ | refine SX.label ?_); try simp only [WS, JA, JB, wI64, wU64, Int.reduceAdd, Int.reduceSub, Int.reduceMul, Int.reduceLE, Int.reduceLT, Int.reduceNeg, Int.reduceToNat, Int.cast_ofNat_Int, sx0, sx1, sx2, sx3, sx4, sx5, sx6, sx7, sy0, sy1, List.filterMap_cons, JC, JD, WT, JE, JF, JG, JH, JI, JJ, JK, WU, JL, JM, JN, JO, WV, JP, JQ, WW, JR, JS, JT, JU, JV, JW, JX, JY, JZ, WA, WB, WC, WD, WE, WF, WG, WH, WI, WJ, WK, WL, WM, WN, true_and, and_true, reduceCtorEq, ↓reduceIte, ↓bifT, ↓bifF, ↓gifT, ↓gifF, eq_self, WO, WP, WQ, Nat.reduceLT, Nat.reduceLeDiff, Nat.reduceAdd, Nat.reduceSub, Nat.reduceMul, Nat.reduceMod, WR, Nat.reduceBEq, Int.reduceBEq, Int.reduceBNe, BEq.rfl])
    | (refine SX.cond rfl (fun hb => ?_) (fun hb => ?_) <;> ((first | cases hb | (simp only [decide_eq_true_eq, decide_eq_false_iff_not, beq_iff_eq, beq_eq_false_iff_ne, bne_iff_ne, Bool.and_eq_true, Bool.or_eq_true, Bool.not_eq_true', Bool.not_eq_false', Bool.and_eq_false_iff, Bool.or_eq_false_iff, Int.not_lt, Int.not_le] at hb) | skip) <;> (first | (exfalso; omega) | skip)))
    | (refine SX.ret ?_; try simp only [WS, JA, JB, wI64, wU64, Int.reduceAdd, Int.reduceSub, Int.reduceMul, Int.reduceLE, Int.reduceLT, Int.reduceNeg, Int.reduceToNat, Int.cast_ofNat_Int, sx0, sx1, sx2, sx3, sx4, sx5, sx6, sx7, sy0, sy1, List.filterMap_cons, JC, JD, WT, JE, JF, JG, JH, JI, JJ, JK, WU, JL, JM, JN, JO, WV, JP, JQ, WW, JR, JS, JT, JU, JV, JW, JX, JY, JZ, WA, WB, WC, WD, WE, WF, WG, WH, WI, WJ, WK, WL, WM, WN, true_and, and_true, reduceCtorEq, ↓reduceIte, ↓bifT, ↓bifF, ↓gifT, ↓gifF, eq_self, WO, WP, WQ, Nat.reduceLT, Nat.reduceLeDiff, Nat.reduceAdd, Nat.reduceSub, Nat.reduceMul, Nat.reduceMod, WR, Nat.reduceBEq, Int.reduceBEq, Int.reduceBNe, BEq.rfl])
    | (refine hN _ ?_; clear hN N)
    | (refine hK _ _ (Fin.res rfl hown ?_); simp only [WS, JA, JB, wI64, wU64, Int.reduceAdd, Int.reduceSub, Int.reduceMul, Int.reduceLE, Int.reduceLT, Int.reduceNeg, Int.reduceToNat, Int.cast_ofNat_Int, sx0, sx1, sx2, sx3, sx4, sx5, sx6, sx7, sy0, sy1, List.filterMap_cons, JC, JD, WT, JE, JF, JG, JH, JI, JJ, JK, WU, JL, JM, JN, JO, WV, JP, JQ, WW, JR, JS, JT, JU, JV, JW, JX, JY, JZ, WA, WB, WC, WD, WE, WF, WG, WH, WI, WJ, WK, WL, WM, WN, true_and, and_true, reduceCtorEq, ↓reduceIte, ↓bifT, ↓bifF, ↓gifT, ↓gifF, eq_self, WO, WP, WQ, Nat.reduceLT, Nat.reduceLeDiff, Nat.reduceAdd, Nat.reduceSub, Nat.reduceMul, Nat.reduceMod, WR, Nat.reduceBEq, Int.reduceBEq, Int.reduceBNe, BEq.rfl, f_a, f_b, f_n, f_c, f_B, f_v, f_g, f_0, f_1, f_2, hT, hwi]; intro w' hbel; refine Done.out ?_)
    | (clear hN N; first | (refine hN _ ?_; clear hN N) | (clear hN N; first | (refine hN _ ?_; clear hN N) | (clear hN N; first | (refine hN _ ?_; clear hN N) | (clear hN N; first | (refine hN _ ?_; clear hN N) | (clear hN N; first | (refine hN _ ?_; clear hN N) | (refine hN _ ?_; clear hN N))))))
    | (refine bif2.mk (fun hb => ?_) (fun hb => ?_) <;> (try simp only [hb, WS, JA, JB, wI64, wU64, Int.reduceAdd, Int.reduceSub, Int.reduceMul, Int.reduceLE, Int.reduceLT, Int.reduceNeg, Int.reduceToNat, Int.cast_ofNat_Int, sx0, sx1, sx2, sx3, sx4, sx5, sx6, sx7, sy0, sy1, List.filterMap_cons, JC, JD, WT, JE, JF, JG, JH, JI, JJ, JK, WU, JL, JM, JN, JO, WV, JP, JQ, WW, JR, JS, JT, JU, JV, JW, JX, JY, JZ, WA, WB, WC, WD, WE, WF, WG, WH, WI, WJ, WK, WL, WM, WN, true_and, and_true, reduceCtorEq, ↓reduceIte, ↓bifT, ↓bifF, ↓gifT, ↓gifF, eq_self, WO, WP, WQ, Nat.reduceLT, Nat.reduceLeDiff, Nat.reduceAdd, Nat.reduceSub, Nat.reduceMul, Nat.reduceMod, WR, Nat.reduceBEq, Int.reduceBEq, Int.reduceBNe, BEq.rfl, hnt, hT]) <;> ((first | cases hb | (simp only [decide_eq_true_eq, decide_eq_false_iff_not, beq_iff_eq, beq_eq_false_iff_ne, bne_iff_ne, Bool.and_eq_true, Bool.or_eq_true, Bool.not_eq_true', Bool.not_eq_false', Bool.and_eq_false_iff, Bool.or_eq_false_iff, Int.not_lt, Int.not_le] at hb) | skip) <;> (first | (exfalso; omega) | skip)))
    | ((first | (refine CallVC.pt (l := [_, _]) hP (put_num num n h1 h2 hn) rfl ?_) | (refine CallQ.pt (l := [_, _]) hP (put_num num n h1 h2 hn) rfl ?_)); simp only [WS, JA, JB, wI64, wU64, Int.reduceAdd, Int.reduceSub, Int.reduceMul, Int.reduceLE, Int.reduceLT, Int.reduceNeg, Int.reduceToNat, Int.cast_ofNat_Int, sx0, sx1, sx2, sx3, sx4, sx5, sx6, sx7, sy0, sy1, List.filterMap_cons, JC, JD, WT, JE, JF, JG, JH, JI, JJ, JK, WU, JL, JM, JN, JO, WV, JP, JQ, WW, JR, JS, JT, JU, JV, JW, JX, JY, JZ, WA, WB, WC, WD, WE, WF, WG, WH, WI, WJ, WK, WL, WM, WN, true_and, and_true, reduceCtorEq, ↓reduceIte, ↓bifT, ↓bifF, ↓gifT, ↓gifF, eq_self, WO, WP, WQ, Nat.reduceLT, Nat.reduceLeDiff, Nat.reduceAdd, Nat.reduceSub, Nat.reduceMul, Nat.reduceMod, WR, Nat.reduceBEq, Int.reduceBEq, Int.reduceBNe, BEq.rfl, hnt, hT])
    | (refine SX.block ?_)
    | (refine and_mk ?_ ?_; (focus first | decide | omega | rfl | assumption | (simp only [List.length_append, List.length_cons, List.length_nil, B_size]; omega) | (simp; done)))
    | (refine And.intro ?_ ?_))
  all_goals (try refine Done.mk ?_)
  all_goals first | exact hbel | exact ⟨rfl, hbel⟩
theorem text_any (num : Nat) (s : List UInt8) (h1 : 1 ≤ num) (h2 : num < 536870912) (hs : s.length < 1152921504606846976) (w : World) :
    Calls Tryd.prog 104 #[.int .i64 num, .string (B s)] w fun e w' => e = .returned (.string (B (textB num s))) ∧ Below w.heap.size w w' := by
  refine calls_pureK (args := [.int .i64 num, .string (B s)]) w Tryd.func104 rfl Tryd.ntmps104 (by simp) ?_
  intro X K hX hK
  have hnt : X.nt = 13 := by rw [hX]
  have hwi : X.wi = w := by rw [hX]
  have hP : X.P = Tryd.prog := by rw [hX]
  have hown : X.own = [] := by rw [hX]
  have hbl : X.base.length = 0 := by rw [hX]; rfl
  clear hX
  have hT : fieldsOf X.P 143 = some [(0, 1), (1, 1), (2, 1), (3, 1)] ∧ zeroCells X.P 143 = some [(Value.int IntKind.i64 0), (Value.int IntKind.i64 0), (Value.int IntKind.u64 0), (Value.string { data := #[] })] ∧ calleeOk X.P 74 = true := by rw [hP]; exact ⟨Ty.fs143, Ty.ze143, Ty.co74⟩
  repeat' (first
    | (refine SX.seqK ?_; intro N hN)
    | ((first | (refine SX.ops ?_)); simp only [WS, JA, JB, wI64, wU64, Int.reduceAdd, Int.reduceSub, Int.reduceMul, Int.reduceLE, Int.reduceLT, Int.reduceNeg, Int.reduceToNat, Int.cast_ofNat_Int, sx0, sx1, sx2, sx3, sx4, sx5, sx6, sx7, sy0, sy1, List.filterMap_cons, JC, JD, WT, JE, JF, JG, JH, JI, JJ, JK, WU, JL, JM, JN, JO, WV, JP, JQ, WW, JR, JS, JT, JU, JV, JW, JX, JY, JZ, WA, WB, WC, WD, WE, WF, WG, WH, WI, WJ, WK, WL, WM, WN, true_and, and_true, reduceCtorEq, ↓reduceIte, ↓bifT, ↓bifF, ↓gifT, ↓gifF, eq_self, WO, WP, WQ, Nat.reduceLT, Nat.reduceLeDiff, Nat.reduceAdd, Nat.reduceSub, Nat.reduceMul, Nat.reduceMod, WR, Nat.reduceBEq, Int.reduceBEq, Int.reduceBNe, BEq.rfl, hnt, hT])
    | ((first | refine SX.skip ?_ | refine SX.exit ?_ | refine SX.label ?_); try simp only [WS, JA, JB, wI64, wU64, Int.reduceAdd, Int.reduceSub, Int.reduceMul, Int.reduceLE, Int.reduceLT, Int.reduceNeg, Int.reduceToNat, Int.cast_ofNat_Int, sx0, sx1, sx2, sx3, sx4, sx5, sx6, sx7, sy0, sy1, List.filterMap_cons, JC, JD, WT, JE, JF, JG, JH, JI, JJ, JK, WU, JL, JM, JN, JO, WV, JP, JQ, WW, JR, JS, JT, JU, JV, JW, JX, JY, JZ, WA, WB, WC, WD, WE, WF, WG, WH, WI, WJ, WK, WL, WM, WN, true_and, and_true, reduceCtorEq, ↓reduceIte, ↓bifT, ↓bifF, ↓gifT, ↓gifF, eq_self, WO, WP, WQ, Nat.reduceLT, Nat.reduceLeDiff, Nat.reduceAdd, Nat.reduceSub, Nat.reduceMul, Nat.reduceMod, WR, Nat.reduceBEq, Int.reduceBEq, Int.reduceBNe, BEq.rfl])
    | (refine SX.cond rfl (fun hb => ?_) (fun hb => ?_) <;> ((first | cases hb | (simp only [decide_eq_true_eq, decide_eq_false_iff_not, beq_iff_eq, beq_eq_false_iff_ne, bne_iff_ne, Bool.and_eq_true, Bool.or_eq_true, Bool.not_eq_true', Bool.not_eq_false', Bool.and_eq_false_iff, Bool.or_eq_false_iff, Int.not_lt, Int.not_le] at hb) | skip) <;> (first | (exfalso; omega) | skip)))
    | (refine SX.ret ?_; try simp only [WS, JA, JB, wI64, wU64, Int.reduceAdd, Int.reduceSub, Int.reduceMul, Int.reduceLE, Int.reduceLT, Int.reduceNeg, Int.reduceToNat, Int.cast_ofNat_Int, sx0, sx1, sx2, sx3, sx4, sx5, sx6, sx7, sy0, sy1, List.filterMap_cons, JC, JD, WT, JE, JF, JG, JH, JI, JJ, JK, WU, JL, JM, JN, JO, WV, JP, JQ, WW, JR, JS, JT, JU, JV, JW, JX, JY, JZ, WA, WB, WC, WD, WE, WF, WG, WH, WI, WJ, WK, WL, WM, WN, true_and, and_true, reduceCtorEq, ↓reduceIte, ↓bifT, ↓bifF, ↓gifT, ↓gifF, eq_self, WO, WP, WQ, Nat.reduceLT, Nat.reduceLeDiff, Nat.reduceAdd, Nat.reduceSub, Nat.reduceMul, Nat.reduceMod, WR, Nat.reduceBEq, Int.reduceBEq, Int.reduceBNe, BEq.rfl])
    | (refine hN _ ?_; clear hN N)
    | (refine hK _ _ (Fin.res rfl hown ?_); simp only [WS, JA, JB, wI64, wU64, Int.reduceAdd, Int.reduceSub, Int.reduceMul, Int.reduceLE, Int.reduceLT, Int.reduceNeg, Int.reduceToNat, Int.cast_ofNat_Int, sx0, sx1, sx2, sx3, sx4, sx5, sx6, sx7, sy0, sy1, List.filterMap_cons, JC, JD, WT, JE, JF, JG, JH, JI, JJ, JK, WU, JL, JM, JN, JO, WV, JP, JQ, WW, JR, JS, JT, JU, JV, JW, JX, JY, JZ, WA, WB, WC, WD, WE, WF, WG, WH, WI, WJ, WK, WL, WM, WN, true_and, and_true, reduceCtorEq, ↓reduceIte, ↓bifT, ↓bifF, ↓gifT, ↓gifF, eq_self, WO, WP, WQ, Nat.reduceLT, Nat.reduceLeDiff, Nat.reduceAdd, Nat.reduceSub, Nat.reduceMul, Nat.reduceMod, WR, Nat.reduceBEq, Int.reduceBEq, Int.reduceBNe, BEq.rfl, f_a, f_b, f_n, f_c, f_B, f_v, f_g, f_0, f_1, f_2, hT, hwi]; intro w' hbel; refine Done.out ?_)
    | (clear hN N; first | (refine hN _ ?_; clear hN N) | (clear hN N; first | (refine hN _ ?_; clear hN N) | (clear hN N; first | (refine hN _ ?_; clear hN N) | (clear hN N; first | (refine hN _ ?_; clear hN N) | (clear hN N; first | (refine hN _ ?_; clear hN N) | (refine hN _ ?_; clear hN N))))))
    | (refine bif2.mk (fun hb => ?_) (fun hb => ?_) <;> (try simp only [hb, WS, JA, JB, wI64, wU64, Int.reduceAdd, Int.reduceSub, Int.reduceMul, Int.reduceLE, Int.reduceLT, Int.reduceNeg, Int.reduceToNat, Int.cast_ofNat_Int, sx0, sx1, sx2, sx3, sx4, sx5, sx6, sx7, sy0, sy1, List.filterMap_cons, JC, JD, WT, JE, JF, JG, JH, JI, JJ, JK, WU, JL, JM, JN, JO, WV, JP, JQ, WW, JR, JS, JT, JU, JV, JW, JX, JY, JZ, WA, WB, WC, WD, WE, WF, WG, WH, WI, WJ, WK, WL, WM, WN, true_and, and_true, reduceCtorEq, ↓reduceIte, ↓bifT, ↓bifF, ↓gifT, ↓gifF, eq_self, WO, WP, WQ, Nat.reduceLT, Nat.reduceLeDiff, Nat.reduceAdd, Nat.reduceSub, Nat.reduceMul, Nat.reduceMod, WR, Nat.reduceBEq, Int.reduceBEq, Int.reduceBNe, BEq.rfl, hnt, hT]) <;> ((first | cases hb | (simp only [decide_eq_true_eq, decide_eq_false_iff_not, beq_iff_eq, beq_eq_false_iff_ne, bne_iff_ne, Bool.and_eq_true, Bool.or_eq_true, Bool.not_eq_true', Bool.not_eq_false', Bool.and_eq_false_iff, Bool.or_eq_false_iff, Int.not_lt, Int.not_le] at hb) | skip) <;> (first | (exfalso; omega) | skip)))
    | ((first | (refine CallVC.pt (l := [_, _]) hP (put_text num s h1 h2 hs) rfl ?_) | (refine CallQ.pt (l := [_, _]) hP (put_text num s h1 h2 hs) rfl ?_)); simp only [WS, JA, JB, wI64, wU64, Int.reduceAdd, Int.reduceSub, Int.reduceMul, Int.reduceLE, Int.reduceLT, Int.reduceNeg, Int.reduceToNat, Int.cast_ofNat_Int, sx0, sx1, sx2, sx3, sx4, sx5, sx6, sx7, sy0, sy1, List.filterMap_cons, JC, JD, WT, JE, JF, JG, JH, JI, JJ, JK, WU, JL, JM, JN, JO, WV, JP, JQ, WW, JR, JS, JT, JU, JV, JW, JX, JY, JZ, WA, WB, WC, WD, WE, WF, WG, WH, WI, WJ, WK, WL, WM, WN, true_and, and_true, reduceCtorEq, ↓reduceIte, ↓bifT, ↓bifF, ↓gifT, ↓gifF, eq_self, WO, WP, WQ, Nat.reduceLT, Nat.reduceLeDiff, Nat.reduceAdd, Nat.reduceSub, Nat.reduceMul, Nat.reduceMod, WR, Nat.reduceBEq, Int.reduceBEq, Int.reduceBNe, BEq.rfl, hnt, hT])
    | (refine SX.block ?_)
    | (refine and_mk ?_ ?_; (focus first | decide | omega | rfl | assumption | (simp only [List.length_append, List.length_cons, List.length_nil, B_size]; omega) | (simp; done)))
    | (refine And.intro ?_ ?_))
  all_goals (try refine Done.mk ?_)
  all_goals first | exact hbel | exact ⟨rfl, hbel⟩
end Go.Proofs.YtbdacbcpniegiaaDoor
namespace Go.Proofs.YtbdacbcpniegiaaDoor
open Go Go.RowKit Go.Proofs Go.Sx
set_option maxHeartbeats 4000000
set_option maxRecDepth 100000
set_option linter.unusedSimpArgs false
set_option linter.unusedVariables false
abbrev bldr (l : List UInt8) : List LO := [.cells [.loc 0 0, .row 1] 123, .row 5 1 l.length (bcells l)]
abbrev bldr' (l : List UInt8) : List LO := [.cells [.loc 0 0, .row 2] 123, .gone, .row 5 1 l.length (bcells l)]
theorem writeString_ctr (l s : List UInt8) (hn : l.length + s.length ≤ 1152921504606) : Ctr Tryd.prog [] 123 (bldr l) [.one (.c (.loc 0 0)), vv (.string (B s))]
    (fun os r => os = bldr' (l ++ s) ∧ r = .tup [.c (.v (.int .i64 s.length)), .c (.v .nilIface)]) :=
  (writeString_used l s l.length hn).mono (fun os r h => ⟨by rw [h.1]; simp, h.2⟩)
theorem string_ctr (l : List UInt8) (h0 : 0 < l.length) (hn : l.length ≤ 1152921504606) : Ctr Tryd.prog [] 69 (bldr l) [.one (.c (.loc 0 0))]
    (fun os r => os = [.cells [.loc 0 0, .row 1] 123, .gone] ∧ r = vv (.string (B l))) := by
  intro X0 hP0 hG0 N0 hN0
  refine CallVC.inline (f := 69) (by rw [hP0]; exact Tryd.func69) rfl Tryd.ntmps69 rfl (by simp) ?_
  intro X K hU hnt hbl hK
  have hP : X.P = Tryd.prog := by rw [hU.P, hP0]
  have hG := hG0.under hU
  have hT : fieldOff X.P 121 1 = some 1 ∧ aggOf X.P 58 = some false ∧ szOf X.P 58 = some 1 ∧ X.P.underlying 58 = some (TypeDesc.slice 5) := by rw [hP]; exact ⟨Ty.fo121_1, Ty.ag58, Ty.sz58, Tryd.underlying58⟩
  simp only [WS, JA, JB, wI64, wU64, Int.reduceAdd, Int.reduceSub, Int.reduceMul, Int.reduceLE, Int.reduceLT, Int.reduceNeg, Int.reduceToNat, Int.cast_ofNat_Int, sx0, sx1, sx2, sx3, sx4, sx5, sx6, sx7, sy0, sy1, List.filterMap_cons, JC, JD, WT, JE, JF, JG, JH, JI, JJ, JK, WU, JL, JM, JN, JO, WV, JP, JQ, WW, JR, JS, JT, JU, JV, JW, JX, JY, JZ, WA, WB, WC, WD, WE, WF, WG, WH, WI, WJ, WK, WL, WM, WN, true_and, and_true, reduceCtorEq, ↓reduceIte, ↓bifT, ↓bifF, ↓gifT, ↓gifF, eq_self, WO, WP, WQ, Nat.reduceLT, Nat.reduceLeDiff, Nat.reduceAdd, Nat.reduceSub, Nat.reduceMul, Nat.reduceMod, WR, Nat.reduceBEq, Int.reduceBEq, Int.reduceBNe, BEq.rfl] at hbl ⊢
  repeat' (first
    | (refine SX.seqK ?_; intro N hN)
    | ((first | (refine SX.ops ?_) | (refine SX.planT (id := 1) [.q [(0, [0]), (1, [3]), (2, [4]), (3, [5]), (4, [6]), (5, [0]), (6, [8]), (7, [9]), (8, [10]), (9, [11])] none, .s 10, .s 11] ?_ ?_ ?_; (focus first | (rw [hP]; kernel_rfl) | (rw [hU1P, hP]; kernel_rfl)); (focus kernel_rfl))); simp only [WS, JA, JB, wI64, wU64, Int.reduceAdd, Int.reduceSub, Int.reduceMul, Int.reduceLE, Int.reduceLT, Int.reduceNeg, Int.reduceToNat, Int.cast_ofNat_Int, sx0, sx1, sx2, sx3, sx4, sx5, sx6, sx7, sy0, sy1, List.filterMap_cons, JC, JD, WT, JE, JF, JG, JH, JI, JJ, JK, WU, JL, JM, JN, JO, WV, JP, JQ, WW, JR, JS, JT, JU, JV, JW, JX, JY, JZ, WA, WB, WC, WD, WE, WF, WG, WH, WI, WJ, WK, WL, WM, WN, true_and, and_true, reduceCtorEq, ↓reduceIte, ↓bifT, ↓bifF, ↓gifT, ↓gifF, eq_self, WO, WP, WQ, Nat.reduceLT, Nat.reduceLeDiff, Nat.reduceAdd, Nat.reduceSub, Nat.reduceMul, Nat.reduceMod, WR, Nat.reduceBEq, Int.reduceBEq, Int.reduceBNe, BEq.rfl, hnt, hT])
    | ((first | refine SX.skip ?_ | refine SX.exit ?_ | refine SX.label ?_); try simp only [WS, JA, JB, wI64, wU64, Int.reduceAdd, Int.reduceSub, Int.reduceMul, Int.reduceLE, Int.reduceLT, Int.reduceNeg, Int.reduceToNat, Int.cast_ofNat_Int, sx0, sx1, sx2, sx3, sx4, sx5, sx6, sx7, sy0, sy1, List.filterMap_cons, JC, JD, WT, JE, JF, JG, JH, JI, JJ, JK, WU, JL, JM, JN, JO, WV, JP, JQ, WW, JR, JS, JT, JU, JV, JW, JX, JY, JZ, WA, WB, WC, WD, WE, WF, WG, WH, WI, WJ, WK, WL, WM, WN, true_and, and_true, reduceCtorEq, ↓reduceIte, ↓bifT, ↓bifF, ↓gifT, ↓gifF, eq_self, WO, WP, WQ, Nat.reduceLT, Nat.reduceLeDiff, Nat.reduceAdd, Nat.reduceSub, Nat.reduceMul, Nat.reduceMod, WR, Nat.reduceBEq, Int.reduceBEq, Int.reduceBNe, BEq.rfl])
    | (refine SX.cond rfl (fun hb => ?_) (fun hb => ?_) <;> ((first | cases hb | (simp only [decide_eq_true_eq, decide_eq_false_iff_not, beq_iff_eq, beq_eq_false_iff_ne, bne_iff_ne, Bool.and_eq_true, Bool.or_eq_true, Bool.not_eq_true', Bool.not_eq_false', Bool.and_eq_false_iff, Bool.or_eq_false_iff, Int.not_lt, Int.not_le] at hb) | skip) <;> (first | (exfalso; omega) | skip)))
    | (refine SX.ret ?_; try simp only [WS, JA, JB, wI64, wU64, Int.reduceAdd, Int.reduceSub, Int.reduceMul, Int.reduceLE, Int.reduceLT, Int.reduceNeg, Int.reduceToNat, Int.cast_ofNat_Int, sx0, sx1, sx2, sx3, sx4, sx5, sx6, sx7, sy0, sy1, List.filterMap_cons, JC, JD, WT, JE, JF, JG, JH, JI, JJ, JK, WU, JL, JM, JN, JO, WV, JP, JQ, WW, JR, JS, JT, JU, JV, JW, JX, JY, JZ, WA, WB, WC, WD, WE, WF, WG, WH, WI, WJ, WK, WL, WM, WN, true_and, and_true, reduceCtorEq, ↓reduceIte, ↓bifT, ↓bifF, ↓gifT, ↓gifF, eq_self, WO, WP, WQ, Nat.reduceLT, Nat.reduceLeDiff, Nat.reduceAdd, Nat.reduceSub, Nat.reduceMul, Nat.reduceMod, WR, Nat.reduceBEq, Int.reduceBEq, Int.reduceBNe, BEq.rfl])
    | (refine hN _ ?_; clear hN N)
    | ((first | refine hK _ _ (FinI.ret3 ?_) | refine hK _ _ (FinI.nrm3 ?_)); simp only [WS, JA, JB, wI64, wU64, Int.reduceAdd, Int.reduceSub, Int.reduceMul, Int.reduceLE, Int.reduceLT, Int.reduceNeg, Int.reduceToNat, Int.cast_ofNat_Int, sx0, sx1, sx2, sx3, sx4, sx5, sx6, sx7, sy0, sy1, List.filterMap_cons, JC, JD, WT, JE, JF, JG, JH, JI, JJ, JK, WU, JL, JM, JN, JO, WV, JP, JQ, WW, JR, JS, JT, JU, JV, JW, JX, JY, JZ, WA, WB, WC, WD, WE, WF, WG, WH, WI, WJ, WK, WL, WM, WN, true_and, and_true, reduceCtorEq, ↓reduceIte, ↓bifT, ↓bifF, ↓gifT, ↓gifF, eq_self, WO, WP, WQ, Nat.reduceLT, Nat.reduceLeDiff, Nat.reduceAdd, Nat.reduceSub, Nat.reduceMul, Nat.reduceMod, WR, Nat.reduceBEq, Int.reduceBEq, Int.reduceBNe, BEq.rfl, finP_s, hnt, hT]; refine Done.out ?_)
    | (clear hN N; first | (refine hN _ ?_; clear hN N) | (clear hN N; first | (refine hN _ ?_; clear hN N) | (clear hN N; first | (refine hN _ ?_; clear hN N) | (clear hN N; first | (refine hN _ ?_; clear hN N) | (clear hN N; first | (refine hN _ ?_; clear hN N) | (refine hN _ ?_; clear hN N))))))
    | (refine bif2.mk (fun hb => ?_) (fun hb => ?_) <;> (try simp only [hb, WS, JA, JB, wI64, wU64, Int.reduceAdd, Int.reduceSub, Int.reduceMul, Int.reduceLE, Int.reduceLT, Int.reduceNeg, Int.reduceToNat, Int.cast_ofNat_Int, sx0, sx1, sx2, sx3, sx4, sx5, sx6, sx7, sy0, sy1, List.filterMap_cons, JC, JD, WT, JE, JF, JG, JH, JI, JJ, JK, WU, JL, JM, JN, JO, WV, JP, JQ, WW, JR, JS, JT, JU, JV, JW, JX, JY, JZ, WA, WB, WC, WD, WE, WF, WG, WH, WI, WJ, WK, WL, WM, WN, true_and, and_true, reduceCtorEq, ↓reduceIte, ↓bifT, ↓bifF, ↓gifT, ↓gifF, eq_self, WO, WP, WQ, Nat.reduceLT, Nat.reduceLeDiff, Nat.reduceAdd, Nat.reduceSub, Nat.reduceMul, Nat.reduceMod, WR, Nat.reduceBEq, Int.reduceBEq, Int.reduceBNe, BEq.rfl, hnt, hT]) <;> ((first | cases hb | (simp only [decide_eq_true_eq, decide_eq_false_iff_not, beq_iff_eq, beq_eq_false_iff_ne, bne_iff_ne, Bool.and_eq_true, Bool.or_eq_true, Bool.not_eq_true', Bool.not_eq_false', Bool.and_eq_false_iff, Bool.or_eq_false_iff, Int.not_lt, Int.not_le] at hb) | skip) <;> (first | (exfalso; omega) | skip)))
    | (show VO X _ _ _; refine VO.unsafeString (k := .i64) (l := l) (pt := 192) (e := 5) rfl rfl rfl (by rw [hP]; kernel_rfl) (by rw [hP]; kernel_rfl) (by intro e; subst e; simp at h0) (by omega) ?_; simp only [WS, JA, JB, wI64, wU64, Int.reduceAdd, Int.reduceSub, Int.reduceMul, Int.reduceLE, Int.reduceLT, Int.reduceNeg, Int.reduceToNat, Int.cast_ofNat_Int, sx0, sx1, sx2, sx3, sx4, sx5, sx6, sx7, sy0, sy1, List.filterMap_cons, JC, JD, WT, JE, JF, JG, JH, JI, JJ, JK, WU, JL, JM, JN, JO, WV, JP, JQ, WW, JR, JS, JT, JU, JV, JW, JX, JY, JZ, WA, WB, WC, WD, WE, WF, WG, WH, WI, WJ, WK, WL, WM, WN, true_and, and_true, reduceCtorEq, ↓reduceIte, ↓bifT, ↓bifF, ↓gifT, ↓gifF, eq_self, WO, WP, WQ, Nat.reduceLT, Nat.reduceLeDiff, Nat.reduceAdd, Nat.reduceSub, Nat.reduceMul, Nat.reduceMod, WR, Nat.reduceBEq, Int.reduceBEq, Int.reduceBNe, BEq.rfl, hnt, hT])
    | (refine SX.block ?_)
    | (refine and_mk ?_ ?_; (focus first | decide | omega | rfl | assumption | (simp only [List.length_append, List.length_cons, List.length_nil, B_size]; omega) | (simp; done)))
    | (refine And.intro ?_ ?_))
  all_goals (try refine Done.mk ?_)
  exact hN0 _ _ ⟨rfl, rfl⟩
theorem wnumber_ctr (l : List UInt8) (num n : Nat) (h1 : 1 ≤ num) (h2 : num < 536870912) (h0 : 0 < n) (hn : n < 18446744073709551616) (hl : l.length ≤ 1152921504000) :
    Ctr Tryd.prog [] 66 (bldr l) [.one (.c (.loc 0 0)), vv (.int .i64 num), vv (.int .u64 n)]
    (fun os r => os = bldr' (l ++ numB num n) ∧ r = .tup []) := by
  have g0 : decide ((0 : Int) < n) = true := by simp; omega
  have hl1 := NW.varint_len10 (n := num * 8) (by omega)
  have hl2 := NW.varint_len10 (n := n) (by omega)
  have hlen : l.length + (numB num n).length ≤ 1152921504606 := by simp [numB]; omega
  intro X0 hP0 hG0 N0 hN0
  refine CallVC.inline (f := 66) (by rw [hP0]; exact Tryd.func66) rfl Tryd.ntmps66 rfl (by simp) ?_
  intro X K hU hnt hbl hK
  have hP : X.P = Tryd.prog := by rw [hU.P, hP0]
  have hG := hG0.under hU
  have hT : fieldOff X.P 123 0 = some 0 ∧ calleeOk X.P 23 = true ∧ calleeOk X.P 123 = true := by rw [hP]; exact ⟨Ty.fo123_0, Ty.co23, Ty.co123⟩
  simp only [WS, JA, JB, wI64, wU64, Int.reduceAdd, Int.reduceSub, Int.reduceMul, Int.reduceLE, Int.reduceLT, Int.reduceNeg, Int.reduceToNat, Int.cast_ofNat_Int, sx0, sx1, sx2, sx3, sx4, sx5, sx6, sx7, sy0, sy1, List.filterMap_cons, JC, JD, WT, JE, JF, JG, JH, JI, JJ, JK, WU, JL, JM, JN, JO, WV, JP, JQ, WW, JR, JS, JT, JU, JV, JW, JX, JY, JZ, WA, WB, WC, WD, WE, WF, WG, WH, WI, WJ, WK, WL, WM, WN, true_and, and_true, reduceCtorEq, ↓reduceIte, ↓bifT, ↓bifF, ↓gifT, ↓gifF, eq_self, WO, WP, WQ, Nat.reduceLT, Nat.reduceLeDiff, Nat.reduceAdd, Nat.reduceSub, Nat.reduceMul, Nat.reduceMod, WR, Nat.reduceBEq, Int.reduceBEq, Int.reduceBNe, BEq.rfl] at hbl ⊢
  repeat' (first
    | (refine SX.seqK ?_; intro N hN)
    | ((first | (refine SX.ops ?_) | (refine SX.planT (id := 1) [.q [(0, [0]), (1, [8]), (2, [9]), (3, [1]), (4, [2]), (5, [11, 12])] none, .s 6] ?_ ?_ ?_; (focus first | (rw [hP]; kernel_rfl) | (rw [hU1P, hP]; kernel_rfl)); (focus kernel_rfl))); simp only [WS, JA, JB, wI64, wU64, Int.reduceAdd, Int.reduceSub, Int.reduceMul, Int.reduceLE, Int.reduceLT, Int.reduceNeg, Int.reduceToNat, Int.cast_ofNat_Int, sx0, sx1, sx2, sx3, sx4, sx5, sx6, sx7, sy0, sy1, List.filterMap_cons, JC, JD, WT, JE, JF, JG, JH, JI, JJ, JK, WU, JL, JM, JN, JO, WV, JP, JQ, WW, JR, JS, JT, JU, JV, JW, JX, JY, JZ, WA, WB, WC, WD, WE, WF, WG, WH, WI, WJ, WK, WL, WM, WN, true_and, and_true, reduceCtorEq, ↓reduceIte, ↓bifT, ↓bifF, ↓gifT, ↓gifF, eq_self, WO, WP, WQ, Nat.reduceLT, Nat.reduceLeDiff, Nat.reduceAdd, Nat.reduceSub, Nat.reduceMul, Nat.reduceMod, WR, Nat.reduceBEq, Int.reduceBEq, Int.reduceBNe, BEq.rfl, hnt, hT, g0])
    | ((first | refine SX.skip ?_ | refine SX.exit ?_ | refine SX.label ?_); try simp only [WS, JA, JB, wI64, wU64, Int.reduceAdd, Int.reduceSub, Int.reduceMul, Int.reduceLE, Int.reduceLT, Int.reduceNeg, Int.reduceToNat, Int.cast_ofNat_Int, sx0, sx1, sx2, sx3, sx4, sx5, sx6, sx7, sy0, sy1, List.filterMap_cons, JC, JD, WT, JE, JF, JG, JH, JI, JJ, JK, WU, JL, JM, JN, JO, WV, JP, JQ, WW, JR, JS, JT, JU, JV, JW, JX, JY, JZ, WA, WB, WC, WD, WE, WF, WG, WH, WI, WJ, WK, WL, WM, WN, true_and, and_true, reduceCtorEq, ↓reduceIte, ↓bifT, ↓bifF, ↓gifT, ↓gifF, eq_self, WO, WP, WQ, Nat.reduceLT, Nat.reduceLeDiff, Nat.reduceAdd, Nat.reduceSub, Nat.reduceMul, Nat.reduceMod, WR, Nat.reduceBEq, Int.reduceBEq, Int.reduceBNe, BEq.rfl])
    | (refine SX.cond rfl (fun hb => ?_) (fun hb => ?_) <;> ((first | cases hb | (simp only [decide_eq_true_eq, decide_eq_false_iff_not, beq_iff_eq, beq_eq_false_iff_ne, bne_iff_ne, Bool.and_eq_true, Bool.or_eq_true, Bool.not_eq_true', Bool.not_eq_false', Bool.and_eq_false_iff, Bool.or_eq_false_iff, Int.not_lt, Int.not_le] at hb) | skip) <;> (first | (exfalso; omega) | skip)))
    | (refine SX.ret ?_; try simp only [WS, JA, JB, wI64, wU64, Int.reduceAdd, Int.reduceSub, Int.reduceMul, Int.reduceLE, Int.reduceLT, Int.reduceNeg, Int.reduceToNat, Int.cast_ofNat_Int, sx0, sx1, sx2, sx3, sx4, sx5, sx6, sx7, sy0, sy1, List.filterMap_cons, JC, JD, WT, JE, JF, JG, JH, JI, JJ, JK, WU, JL, JM, JN, JO, WV, JP, JQ, WW, JR, JS, JT, JU, JV, JW, JX, JY, JZ, WA, WB, WC, WD, WE, WF, WG, WH, WI, WJ, WK, WL, WM, WN, true_and, and_true, reduceCtorEq, ↓reduceIte, ↓bifT, ↓bifF, ↓gifT, ↓gifF, eq_self, WO, WP, WQ, Nat.reduceLT, Nat.reduceLeDiff, Nat.reduceAdd, Nat.reduceSub, Nat.reduceMul, Nat.reduceMod, WR, Nat.reduceBEq, Int.reduceBEq, Int.reduceBNe, BEq.rfl])
    | (refine hN _ ?_; clear hN N)
    | ((first | refine hK _ _ (FinI.ret3 ?_) | refine hK _ _ (FinI.nrm3 ?_)); simp only [WS, JA, JB, wI64, wU64, Int.reduceAdd, Int.reduceSub, Int.reduceMul, Int.reduceLE, Int.reduceLT, Int.reduceNeg, Int.reduceToNat, Int.cast_ofNat_Int, sx0, sx1, sx2, sx3, sx4, sx5, sx6, sx7, sy0, sy1, List.filterMap_cons, JC, JD, WT, JE, JF, JG, JH, JI, JJ, JK, WU, JL, JM, JN, JO, WV, JP, JQ, WW, JR, JS, JT, JU, JV, JW, JX, JY, JZ, WA, WB, WC, WD, WE, WF, WG, WH, WI, WJ, WK, WL, WM, WN, true_and, and_true, reduceCtorEq, ↓reduceIte, ↓bifT, ↓bifF, ↓gifT, ↓gifF, eq_self, WO, WP, WQ, Nat.reduceLT, Nat.reduceLeDiff, Nat.reduceAdd, Nat.reduceSub, Nat.reduceMul, Nat.reduceMod, WR, Nat.reduceBEq, Int.reduceBEq, Int.reduceBNe, BEq.rfl, finP_s, hnt, hT, g0]; refine Done.out ?_)
    | (clear hN N; first | (refine hN _ ?_; clear hN N) | (clear hN N; first | (refine hN _ ?_; clear hN N) | (clear hN N; first | (refine hN _ ?_; clear hN N) | (clear hN N; first | (refine hN _ ?_; clear hN N) | (clear hN N; first | (refine hN _ ?_; clear hN N) | (refine hN _ ?_; clear hN N))))))
    | (refine bif2.mk (fun hb => ?_) (fun hb => ?_) <;> (try simp only [hb, WS, JA, JB, wI64, wU64, Int.reduceAdd, Int.reduceSub, Int.reduceMul, Int.reduceLE, Int.reduceLT, Int.reduceNeg, Int.reduceToNat, Int.cast_ofNat_Int, sx0, sx1, sx2, sx3, sx4, sx5, sx6, sx7, sy0, sy1, List.filterMap_cons, JC, JD, WT, JE, JF, JG, JH, JI, JJ, JK, WU, JL, JM, JN, JO, WV, JP, JQ, WW, JR, JS, JT, JU, JV, JW, JX, JY, JZ, WA, WB, WC, WD, WE, WF, WG, WH, WI, WJ, WK, WL, WM, WN, true_and, and_true, reduceCtorEq, ↓reduceIte, ↓bifT, ↓bifF, ↓gifT, ↓gifF, eq_self, WO, WP, WQ, Nat.reduceLT, Nat.reduceLeDiff, Nat.reduceAdd, Nat.reduceSub, Nat.reduceMul, Nat.reduceMod, WR, Nat.reduceBEq, Int.reduceBEq, Int.reduceBNe, BEq.rfl, hnt, hT, g0]) <;> ((first | cases hb | (simp only [decide_eq_true_eq, decide_eq_false_iff_not, beq_iff_eq, beq_eq_false_iff_ne, bne_iff_ne, Bool.and_eq_true, Bool.or_eq_true, Bool.not_eq_true', Bool.not_eq_false', Bool.and_eq_false_iff, Bool.or_eq_false_iff, Int.not_lt, Int.not_le] at hb) | skip) <;> (first | (exfalso; omega) | skip)))
    | ((first | (refine CallVC.pv hP (number_any num n h1 h2 hn) rfl ?_) | (refine CallQ.pv hP (number_any num n h1 h2 hn) rfl ?_) | (refine Ctr.use (writeString_ctr l (numB num n) hlen) hP ?_ [0,1] ?_ rfl rfl ?_; (focus (intro p hp; cases hp)); (focus (refine LeR.of rfl trivial ?_ ?_ ?_ ?_ ?_ <;> first | decide | (simp only [WS, JA, JB, wI64, wU64, Int.reduceAdd, Int.reduceSub, Int.reduceMul, Int.reduceLE, Int.reduceLT, Int.reduceNeg, Int.reduceToNat, Int.cast_ofNat_Int, sx0, sx1, sx2, sx3, sx4, sx5, sx6, sx7, sy0, sy1, List.filterMap_cons, JC, JD, WT, JE, JF, JG, JH, JI, JJ, JK, WU, JL, JM, JN, JO, WV, JP, JQ, WW, JR, JS, JT, JU, JV, JW, JX, JY, JZ, WA, WB, WC, WD, WE, WF, WG, WH, WI, WJ, WK, WL, WM, WN, true_and, and_true, reduceCtorEq, ↓reduceIte, ↓bifT, ↓bifF, ↓gifT, ↓gifF, eq_self, WO, WP, WQ, Nat.reduceLT, Nat.reduceLeDiff, Nat.reduceAdd, Nat.reduceSub, Nat.reduceMul, Nat.reduceMod, WR, Nat.reduceBEq, Int.reduceBEq, Int.reduceBNe, BEq.rfl, List.getD_cons_zero, List.getD_cons_succ, or_false, false_or, or_self, or_true, true_or, decide_true]; done))); intro os' s hR; obtain ⟨rfl, rfl⟩ := hR)); simp only [WS, JA, JB, wI64, wU64, Int.reduceAdd, Int.reduceSub, Int.reduceMul, Int.reduceLE, Int.reduceLT, Int.reduceNeg, Int.reduceToNat, Int.cast_ofNat_Int, sx0, sx1, sx2, sx3, sx4, sx5, sx6, sx7, sy0, sy1, List.filterMap_cons, JC, JD, WT, JE, JF, JG, JH, JI, JJ, JK, WU, JL, JM, JN, JO, WV, JP, JQ, WW, JR, JS, JT, JU, JV, JW, JX, JY, JZ, WA, WB, WC, WD, WE, WF, WG, WH, WI, WJ, WK, WL, WM, WN, true_and, and_true, reduceCtorEq, ↓reduceIte, ↓bifT, ↓bifF, ↓gifT, ↓gifF, eq_self, WO, WP, WQ, Nat.reduceLT, Nat.reduceLeDiff, Nat.reduceAdd, Nat.reduceSub, Nat.reduceMul, Nat.reduceMod, WR, Nat.reduceBEq, Int.reduceBEq, Int.reduceBNe, BEq.rfl, hnt, hT, g0])
    | (refine SX.block ?_)
    | (refine and_mk ?_ ?_; (focus first | decide | omega | rfl | assumption | (simp only [List.length_append, List.length_cons, List.length_nil, B_size]; omega) | (simp; done)))
    | (refine And.intro ?_ ?_))
  all_goals (try refine Done.mk ?_)
  all_goals exact hN0 _ _ ⟨rfl, rfl⟩
end Go.Proofs.YtbdacbcpniegiaaDoor
namespace Go.Proofs.YtbdacbcpniegiaaDoor
open Go Go.RowKit Go.Proofs Go.Sx
set_option maxHeartbeats 4000000
set_option maxRecDepth 100000
set_option linter.unusedSimpArgs false
set_option linter.unusedVariables false
theorem writeByte_ctr (b : UInt8) : Ctr Tryd.prog [] 65 [.cells [.v (.pointer none), .v (.slice none 0 0)] 123] [.one (.c (.loc 0 0)), vv (.int .u8 b.toNat)]
    (fun os s => os = [.cells [.loc 0 0, .row 3] 123, .cells [.v (.int .u8 b.toNat)] 5, .gone, .row 5 1 [b].length (bcells [b])] ∧ s = vv .nilIface) :=
  (writeByte_fresh b.toNat).mono (fun os r h => ⟨by rw [h.1]; rfl, h.2⟩)
theorem wlist1_ctr (l s : List UInt8) (num : Nat) (h1 : 1 ≤ num) (h2 : num < 536870912) (hs : s.length < 4294967296) (hl : l.length ≤ 1148000000000) :
    Ctr Tryd.prog [] 67 (bldr l ++ [.cells [.v (.string (B s))] 9]) [.one (.c (.loc 0 0)), vv (.int .i64 num), .one (.c (.sl 2 0 1 1))]
    (fun os r => os = [.cells [.loc 0 0, .row 3] 123, .gone, .cells [.v (.string (B s))] 9, .row 5 1 (l ++ textB num s).length (bcells (l ++ textB num s))] ∧ r = .tup []) := by
  have hl1 := NW.varint_len10 (n := num * 8 + 2) (by omega)
  have hl2 := NW.varint_len10 (n := s.length) (by omega)
  have hlen : l.length + (textB num s).length ≤ 1152921504606 := by simp [textB]; omega
  intro X0 hP0 hG0 N0 hN0
  refine CallVC.inline (f := 67) (by rw [hP0]; exact Tryd.func67) rfl Tryd.ntmps67 rfl (by simp) ?_
  intro X K hU hnt hbl hK
  have hP : X.P = Tryd.prog := by rw [hU.P, hP0]
  have hG := hG0.under hU
  have hT : X.P.underlying 38 = some (TypeDesc.slice 9) ∧ elemSz X.P 38 = some (9, 1) ∧ aggOf X.P 9 = some false ∧ szOf X.P 9 = some 1 ∧ fieldOff X.P 123 0 = some 0 ∧ calleeOk X.P 104 = true ∧ calleeOk X.P 123 = true := by rw [hP]; exact ⟨Tryd.underlying38, Ty.el38, Ty.ag9, Ty.sz9, Ty.fo123_0, Ty.co104, Ty.co123⟩
  simp only [WS, JA, JB, wI64, wU64, Int.reduceAdd, Int.reduceSub, Int.reduceMul, Int.reduceLE, Int.reduceLT, Int.reduceNeg, Int.reduceToNat, Int.cast_ofNat_Int, sx0, sx1, sx2, sx3, sx4, sx5, sx6, sx7, sy0, sy1, List.filterMap_cons, JC, JD, WT, JE, JF, JG, JH, JI, JJ, JK, WU, JL, JM, JN, JO, WV, JP, JQ, WW, JR, JS, JT, JU, JV, JW, JX, JY, JZ, WA, WB, WC, WD, WE, WF, WG, WH, WI, WJ, WK, WL, WM, WN, true_and, and_true, reduceCtorEq, ↓reduceIte, ↓bifT, ↓bifF, ↓gifT, ↓gifF, eq_self, WO, WP, WQ, Nat.reduceLT, Nat.reduceLeDiff, Nat.reduceAdd, Nat.reduceSub, Nat.reduceMul, Nat.reduceMod, WR, Nat.reduceBEq, Int.reduceBEq, Int.reduceBNe, BEq.rfl] at hbl ⊢
  repeat' (first
    | (refine SX.seqK ?_; intro N hN)
    | ((first | (refine SX.ops ?_) | (refine SX.planT (id := 3) [.q [(0, [0]), (1, [14]), (2, [15]), (3, [1]), (4, [7]), (5, [17, 18])] none, .s 6] ?_ ?_ ?_; (focus first | (rw [hP]; kernel_rfl) | (rw [hU1P, hP]; kernel_rfl)); (focus kernel_rfl))); simp only [WS, JA, JB, wI64, wU64, Int.reduceAdd, Int.reduceSub, Int.reduceMul, Int.reduceLE, Int.reduceLT, Int.reduceNeg, Int.reduceToNat, Int.cast_ofNat_Int, sx0, sx1, sx2, sx3, sx4, sx5, sx6, sx7, sy0, sy1, List.filterMap_cons, JC, JD, WT, JE, JF, JG, JH, JI, JJ, JK, WU, JL, JM, JN, JO, WV, JP, JQ, WW, JR, JS, JT, JU, JV, JW, JX, JY, JZ, WA, WB, WC, WD, WE, WF, WG, WH, WI, WJ, WK, WL, WM, WN, true_and, and_true, reduceCtorEq, ↓reduceIte, ↓bifT, ↓bifF, ↓gifT, ↓gifF, eq_self, WO, WP, WQ, Nat.reduceLT, Nat.reduceLeDiff, Nat.reduceAdd, Nat.reduceSub, Nat.reduceMul, Nat.reduceMod, WR, Nat.reduceBEq, Int.reduceBEq, Int.reduceBNe, BEq.rfl, hnt, hT])
    | ((first | refine SX.skip ?_ | refine SX.exit ?_ | refine SX.label ?_); try simp only [WS, JA, JB, wI64, wU64, Int.reduceAdd, Int.reduceSub, Int.reduceMul, Int.reduceLE, Int.reduceLT, Int.reduceNeg, Int.reduceToNat, Int.cast_ofNat_Int, sx0, sx1, sx2, sx3, sx4, sx5, sx6, sx7, sy0, sy1, List.filterMap_cons, JC, JD, WT, JE, JF, JG, JH, JI, JJ, JK, WU, JL, JM, JN, JO, WV, JP, JQ, WW, JR, JS, JT, JU, JV, JW, JX, JY, JZ, WA, WB, WC, WD, WE, WF, WG, WH, WI, WJ, WK, WL, WM, WN, true_and, and_true, reduceCtorEq, ↓reduceIte, ↓bifT, ↓bifF, ↓gifT, ↓gifF, eq_self, WO, WP, WQ, Nat.reduceLT, Nat.reduceLeDiff, Nat.reduceAdd, Nat.reduceSub, Nat.reduceMul, Nat.reduceMod, WR, Nat.reduceBEq, Int.reduceBEq, Int.reduceBNe, BEq.rfl])
    | (refine SX.cond rfl (fun hb => ?_) (fun hb => ?_) <;> ((first | cases hb | (simp only [decide_eq_true_eq, decide_eq_false_iff_not, beq_iff_eq, beq_eq_false_iff_ne, bne_iff_ne, Bool.and_eq_true, Bool.or_eq_true, Bool.not_eq_true', Bool.not_eq_false', Bool.and_eq_false_iff, Bool.or_eq_false_iff, Int.not_lt, Int.not_le] at hb) | skip) <;> (first | (exfalso; omega) | skip)))
    | (refine SX.ret ?_; try simp only [WS, JA, JB, wI64, wU64, Int.reduceAdd, Int.reduceSub, Int.reduceMul, Int.reduceLE, Int.reduceLT, Int.reduceNeg, Int.reduceToNat, Int.cast_ofNat_Int, sx0, sx1, sx2, sx3, sx4, sx5, sx6, sx7, sy0, sy1, List.filterMap_cons, JC, JD, WT, JE, JF, JG, JH, JI, JJ, JK, WU, JL, JM, JN, JO, WV, JP, JQ, WW, JR, JS, JT, JU, JV, JW, JX, JY, JZ, WA, WB, WC, WD, WE, WF, WG, WH, WI, WJ, WK, WL, WM, WN, true_and, and_true, reduceCtorEq, ↓reduceIte, ↓bifT, ↓bifF, ↓gifT, ↓gifF, eq_self, WO, WP, WQ, Nat.reduceLT, Nat.reduceLeDiff, Nat.reduceAdd, Nat.reduceSub, Nat.reduceMul, Nat.reduceMod, WR, Nat.reduceBEq, Int.reduceBEq, Int.reduceBNe, BEq.rfl])
    | (refine hN _ ?_; clear hN N)
    | ((first | refine hK _ _ (FinI.ret3 ?_) | refine hK _ _ (FinI.nrm3 ?_)); simp only [WS, JA, JB, wI64, wU64, Int.reduceAdd, Int.reduceSub, Int.reduceMul, Int.reduceLE, Int.reduceLT, Int.reduceNeg, Int.reduceToNat, Int.cast_ofNat_Int, sx0, sx1, sx2, sx3, sx4, sx5, sx6, sx7, sy0, sy1, List.filterMap_cons, JC, JD, WT, JE, JF, JG, JH, JI, JJ, JK, WU, JL, JM, JN, JO, WV, JP, JQ, WW, JR, JS, JT, JU, JV, JW, JX, JY, JZ, WA, WB, WC, WD, WE, WF, WG, WH, WI, WJ, WK, WL, WM, WN, true_and, and_true, reduceCtorEq, ↓reduceIte, ↓bifT, ↓bifF, ↓gifT, ↓gifF, eq_self, WO, WP, WQ, Nat.reduceLT, Nat.reduceLeDiff, Nat.reduceAdd, Nat.reduceSub, Nat.reduceMul, Nat.reduceMod, WR, Nat.reduceBEq, Int.reduceBEq, Int.reduceBNe, BEq.rfl, finP_s, hnt, hT]; refine Done.out ?_)
    | (clear hN N; first | (refine hN _ ?_; clear hN N) | (clear hN N; first | (refine hN _ ?_; clear hN N) | (clear hN N; first | (refine hN _ ?_; clear hN N) | (clear hN N; first | (refine hN _ ?_; clear hN N) | (clear hN N; first | (refine hN _ ?_; clear hN N) | (refine hN _ ?_; clear hN N))))))
    | (refine bif2.mk (fun hb => ?_) (fun hb => ?_) <;> (try simp only [hb, WS, JA, JB, wI64, wU64, Int.reduceAdd, Int.reduceSub, Int.reduceMul, Int.reduceLE, Int.reduceLT, Int.reduceNeg, Int.reduceToNat, Int.cast_ofNat_Int, sx0, sx1, sx2, sx3, sx4, sx5, sx6, sx7, sy0, sy1, List.filterMap_cons, JC, JD, WT, JE, JF, JG, JH, JI, JJ, JK, WU, JL, JM, JN, JO, WV, JP, JQ, WW, JR, JS, JT, JU, JV, JW, JX, JY, JZ, WA, WB, WC, WD, WE, WF, WG, WH, WI, WJ, WK, WL, WM, WN, true_and, and_true, reduceCtorEq, ↓reduceIte, ↓bifT, ↓bifF, ↓gifT, ↓gifF, eq_self, WO, WP, WQ, Nat.reduceLT, Nat.reduceLeDiff, Nat.reduceAdd, Nat.reduceSub, Nat.reduceMul, Nat.reduceMod, WR, Nat.reduceBEq, Int.reduceBEq, Int.reduceBNe, BEq.rfl, hnt, hT]) <;> ((first | cases hb | (simp only [decide_eq_true_eq, decide_eq_false_iff_not, beq_iff_eq, beq_eq_false_iff_ne, bne_iff_ne, Bool.and_eq_true, Bool.or_eq_true, Bool.not_eq_true', Bool.not_eq_false', Bool.and_eq_false_iff, Bool.or_eq_false_iff, Int.not_lt, Int.not_le] at hb) | skip) <;> (first | (exfalso; omega) | skip)))
    | ((first | (refine CallVC.pv hP (text_any num s h1 h2 (by omega)) rfl ?_) | (refine CallQ.pv hP (text_any num s h1 h2 (by omega)) rfl ?_) | (refine Ctr.use (writeString_ctr l (textB num s) hlen) hP ?_ [0,1] ?_ rfl rfl ?_; (focus (intro p hp; cases hp)); (focus (refine LeR.of rfl trivial ?_ ?_ ?_ ?_ ?_ <;> first | decide | (simp only [WS, JA, JB, wI64, wU64, Int.reduceAdd, Int.reduceSub, Int.reduceMul, Int.reduceLE, Int.reduceLT, Int.reduceNeg, Int.reduceToNat, Int.cast_ofNat_Int, sx0, sx1, sx2, sx3, sx4, sx5, sx6, sx7, sy0, sy1, List.filterMap_cons, JC, JD, WT, JE, JF, JG, JH, JI, JJ, JK, WU, JL, JM, JN, JO, WV, JP, JQ, WW, JR, JS, JT, JU, JV, JW, JX, JY, JZ, WA, WB, WC, WD, WE, WF, WG, WH, WI, WJ, WK, WL, WM, WN, true_and, and_true, reduceCtorEq, ↓reduceIte, ↓bifT, ↓bifF, ↓gifT, ↓gifF, eq_self, WO, WP, WQ, Nat.reduceLT, Nat.reduceLeDiff, Nat.reduceAdd, Nat.reduceSub, Nat.reduceMul, Nat.reduceMod, WR, Nat.reduceBEq, Int.reduceBEq, Int.reduceBNe, BEq.rfl, List.getD_cons_zero, List.getD_cons_succ, or_false, false_or, or_self, or_true, true_or, decide_true]; done))); intro os' s hR; obtain ⟨rfl, rfl⟩ := hR)); simp only [WS, JA, JB, wI64, wU64, Int.reduceAdd, Int.reduceSub, Int.reduceMul, Int.reduceLE, Int.reduceLT, Int.reduceNeg, Int.reduceToNat, Int.cast_ofNat_Int, sx0, sx1, sx2, sx3, sx4, sx5, sx6, sx7, sy0, sy1, List.filterMap_cons, JC, JD, WT, JE, JF, JG, JH, JI, JJ, JK, WU, JL, JM, JN, JO, WV, JP, JQ, WW, JR, JS, JT, JU, JV, JW, JX, JY, JZ, WA, WB, WC, WD, WE, WF, WG, WH, WI, WJ, WK, WL, WM, WN, true_and, and_true, reduceCtorEq, ↓reduceIte, ↓bifT, ↓bifF, ↓gifT, ↓gifF, eq_self, WO, WP, WQ, Nat.reduceLT, Nat.reduceLeDiff, Nat.reduceAdd, Nat.reduceSub, Nat.reduceMul, Nat.reduceMod, WR, Nat.reduceBEq, Int.reduceBEq, Int.reduceBNe, BEq.rfl, hnt, hT])
    | (refine SX.loopN 2 ?_)
    | (refine SXr.stepK ?_; intro N hN)
    | (refine SX.block ?_)
    | (refine and_mk ?_ ?_; (focus first | decide | omega | rfl | assumption | (simp only [List.length_append, List.length_cons, List.length_nil, B_size]; omega) | (simp; done)))
    | (refine And.intro ?_ ?_))
  all_goals (try refine Done.mk ?_)
  all_goals exact hN0 _ _ ⟨rfl, rfl⟩
theorem wflag_yes (l : List UInt8) (num : Nat) (h1 : 1 ≤ num) (h2 : num < 536870912) (hl : l.length ≤ 1152921504000) :
    Ctr Tryd.prog [] 68 (bldr l) [.one (.c (.loc 0 0)), vv (.int .i64 num), vv (.bool true)] (fun os r => os = bldr' (l ++ numB num 1) ∧ r = .tup []) := by
  intro X0 hP0 hG0 N0 hN0
  refine CallVC.inline (f := 68) (by rw [hP0]; exact Tryd.func68) rfl Tryd.ntmps68 rfl (by simp) ?_
  intro X K hU hnt hbl hK
  have hP : X.P = Tryd.prog := by rw [hU.P, hP0]
  have hG := hG0.under hU
  have hT : calleeOk X.P 66 = true := by rw [hP]; exact Ty.co66
  simp only [WS, JA, JB, wI64, wU64, Int.reduceAdd, Int.reduceSub, Int.reduceMul, Int.reduceLE, Int.reduceLT, Int.reduceNeg, Int.reduceToNat, Int.cast_ofNat_Int, sx0, sx1, sx2, sx3, sx4, sx5, sx6, sx7, sy0, sy1, List.filterMap_cons, JC, JD, WT, JE, JF, JG, JH, JI, JJ, JK, WU, JL, JM, JN, JO, WV, JP, JQ, WW, JR, JS, JT, JU, JV, JW, JX, JY, JZ, WA, WB, WC, WD, WE, WF, WG, WH, WI, WJ, WK, WL, WM, WN, true_and, and_true, reduceCtorEq, ↓reduceIte, ↓bifT, ↓bifF, ↓gifT, ↓gifF, eq_self, WO, WP, WQ, Nat.reduceLT, Nat.reduceLeDiff, Nat.reduceAdd, Nat.reduceSub, Nat.reduceMul, Nat.reduceMod, WR, Nat.reduceBEq, Int.reduceBEq, Int.reduceBNe, BEq.rfl] at hbl ⊢
  repeat' (first
    | (refine SX.seqK ?_; intro N hN)
    | ((first | (refine SX.ops ?_)); simp only [WS, JA, JB, wI64, wU64, Int.reduceAdd, Int.reduceSub, Int.reduceMul, Int.reduceLE, Int.reduceLT, Int.reduceNeg, Int.reduceToNat, Int.cast_ofNat_Int, sx0, sx1, sx2, sx3, sx4, sx5, sx6, sx7, sy0, sy1, List.filterMap_cons, JC, JD, WT, JE, JF, JG, JH, JI, JJ, JK, WU, JL, JM, JN, JO, WV, JP, JQ, WW, JR, JS, JT, JU, JV, JW, JX, JY, JZ, WA, WB, WC, WD, WE, WF, WG, WH, WI, WJ, WK, WL, WM, WN, true_and, and_true, reduceCtorEq, ↓reduceIte, ↓bifT, ↓bifF, ↓gifT, ↓gifF, eq_self, WO, WP, WQ, Nat.reduceLT, Nat.reduceLeDiff, Nat.reduceAdd, Nat.reduceSub, Nat.reduceMul, Nat.reduceMod, WR, Nat.reduceBEq, Int.reduceBEq, Int.reduceBNe, BEq.rfl, hnt, hT])
    | ((first | refine SX.skip ?_ | refine SX.exit ?_ | refine SX.label ?_); try simp only [WS, JA, JB, wI64, wU64, Int.reduceAdd, Int.reduceSub, Int.reduceMul, Int.reduceLE, Int.reduceLT, Int.reduceNeg, Int.reduceToNat, Int.cast_ofNat_Int, sx0, sx1, sx2, sx3, sx4, sx5, sx6, sx7, sy0, sy1, List.filterMap_cons, JC, JD, WT, JE, JF, JG, JH, JI, JJ, JK, WU, JL, JM, JN, JO, WV, JP, JQ, WW, JR, JS, JT, JU, JV, JW, JX, JY, JZ, WA, WB, WC, WD, WE, WF, WG, WH, WI, WJ, WK, WL, WM, WN, true_and, and_true, reduceCtorEq, ↓reduceIte, ↓bifT, ↓bifF, ↓gifT, ↓gifF, eq_self, WO, WP, WQ, Nat.reduceLT, Nat.reduceLeDiff, Nat.reduceAdd, Nat.reduceSub, Nat.reduceMul, Nat.reduceMod, WR, Nat.reduceBEq, Int.reduceBEq, Int.reduceBNe, BEq.rfl])
    | (refine SX.cond rfl (fun hb => ?_) (fun hb => ?_) <;> ((first | cases hb | (simp only [decide_eq_true_eq, decide_eq_false_iff_not, beq_iff_eq, beq_eq_false_iff_ne, bne_iff_ne, Bool.and_eq_true, Bool.or_eq_true, Bool.not_eq_true', Bool.not_eq_false', Bool.and_eq_false_iff, Bool.or_eq_false_iff, Int.not_lt, Int.not_le] at hb) | skip) <;> (first | (exfalso; omega) | skip)))
    | (refine SX.ret ?_; try simp only [WS, JA, JB, wI64, wU64, Int.reduceAdd, Int.reduceSub, Int.reduceMul, Int.reduceLE, Int.reduceLT, Int.reduceNeg, Int.reduceToNat, Int.cast_ofNat_Int, sx0, sx1, sx2, sx3, sx4, sx5, sx6, sx7, sy0, sy1, List.filterMap_cons, JC, JD, WT, JE, JF, JG, JH, JI, JJ, JK, WU, JL, JM, JN, JO, WV, JP, JQ, WW, JR, JS, JT, JU, JV, JW, JX, JY, JZ, WA, WB, WC, WD, WE, WF, WG, WH, WI, WJ, WK, WL, WM, WN, true_and, and_true, reduceCtorEq, ↓reduceIte, ↓bifT, ↓bifF, ↓gifT, ↓gifF, eq_self, WO, WP, WQ, Nat.reduceLT, Nat.reduceLeDiff, Nat.reduceAdd, Nat.reduceSub, Nat.reduceMul, Nat.reduceMod, WR, Nat.reduceBEq, Int.reduceBEq, Int.reduceBNe, BEq.rfl])
    | (refine hN _ ?_; clear hN N)
    | ((first | refine hK _ _ (FinI.ret3 ?_) | refine hK _ _ (FinI.nrm3 ?_)); simp only [WS, JA, JB, wI64, wU64, Int.reduceAdd, Int.reduceSub, Int.reduceMul, Int.reduceLE, Int.reduceLT, Int.reduceNeg, Int.reduceToNat, Int.cast_ofNat_Int, sx0, sx1, sx2, sx3, sx4, sx5, sx6, sx7, sy0, sy1, List.filterMap_cons, JC, JD, WT, JE, JF, JG, JH, JI, JJ, JK, WU, JL, JM, JN, JO, WV, JP, JQ, WW, JR, JS, JT, JU, JV, JW, JX, JY, JZ, WA, WB, WC, WD, WE, WF, WG, WH, WI, WJ, WK, WL, WM, WN, true_and, and_true, reduceCtorEq, ↓reduceIte, ↓bifT, ↓bifF, ↓gifT, ↓gifF, eq_self, WO, WP, WQ, Nat.reduceLT, Nat.reduceLeDiff, Nat.reduceAdd, Nat.reduceSub, Nat.reduceMul, Nat.reduceMod, WR, Nat.reduceBEq, Int.reduceBEq, Int.reduceBNe, BEq.rfl, finP_s, hnt, hT]; refine Done.out ?_)
    | (clear hN N; first | (refine hN _ ?_; clear hN N) | (clear hN N; first | (refine hN _ ?_; clear hN N) | (clear hN N; first | (refine hN _ ?_; clear hN N) | (clear hN N; first | (refine hN _ ?_; clear hN N) | (clear hN N; first | (refine hN _ ?_; clear hN N) | (refine hN _ ?_; clear hN N))))))
    | (refine bif2.mk (fun hb => ?_) (fun hb => ?_) <;> (try simp only [hb, WS, JA, JB, wI64, wU64, Int.reduceAdd, Int.reduceSub, Int.reduceMul, Int.reduceLE, Int.reduceLT, Int.reduceNeg, Int.reduceToNat, Int.cast_ofNat_Int, sx0, sx1, sx2, sx3, sx4, sx5, sx6, sx7, sy0, sy1, List.filterMap_cons, JC, JD, WT, JE, JF, JG, JH, JI, JJ, JK, WU, JL, JM, JN, JO, WV, JP, JQ, WW, JR, JS, JT, JU, JV, JW, JX, JY, JZ, WA, WB, WC, WD, WE, WF, WG, WH, WI, WJ, WK, WL, WM, WN, true_and, and_true, reduceCtorEq, ↓reduceIte, ↓bifT, ↓bifF, ↓gifT, ↓gifF, eq_self, WO, WP, WQ, Nat.reduceLT, Nat.reduceLeDiff, Nat.reduceAdd, Nat.reduceSub, Nat.reduceMul, Nat.reduceMod, WR, Nat.reduceBEq, Int.reduceBEq, Int.reduceBNe, BEq.rfl, hnt, hT]) <;> ((first | cases hb | (simp only [decide_eq_true_eq, decide_eq_false_iff_not, beq_iff_eq, beq_eq_false_iff_ne, bne_iff_ne, Bool.and_eq_true, Bool.or_eq_true, Bool.not_eq_true', Bool.not_eq_false', Bool.and_eq_false_iff, Bool.or_eq_false_iff, Int.not_lt, Int.not_le] at hb) | skip) <;> (first | (exfalso; omega) | skip)))
    | ((first | (refine Ctr.use (wnumber_ctr l num 1 h1 h2 (by decide) (by decide) hl) hP ?_ [0,1] ?_ rfl rfl ?_; (focus (intro p hp; cases hp)); (focus (refine LeR.of rfl trivial ?_ ?_ ?_ ?_ ?_ <;> first | decide | (simp only [WS, JA, JB, wI64, wU64, Int.reduceAdd, Int.reduceSub, Int.reduceMul, Int.reduceLE, Int.reduceLT, Int.reduceNeg, Int.reduceToNat, Int.cast_ofNat_Int, sx0, sx1, sx2, sx3, sx4, sx5, sx6, sx7, sy0, sy1, List.filterMap_cons, JC, JD, WT, JE, JF, JG, JH, JI, JJ, JK, WU, JL, JM, JN, JO, WV, JP, JQ, WW, JR, JS, JT, JU, JV, JW, JX, JY, JZ, WA, WB, WC, WD, WE, WF, WG, WH, WI, WJ, WK, WL, WM, WN, true_and, and_true, reduceCtorEq, ↓reduceIte, ↓bifT, ↓bifF, ↓gifT, ↓gifF, eq_self, WO, WP, WQ, Nat.reduceLT, Nat.reduceLeDiff, Nat.reduceAdd, Nat.reduceSub, Nat.reduceMul, Nat.reduceMod, WR, Nat.reduceBEq, Int.reduceBEq, Int.reduceBNe, BEq.rfl, List.getD_cons_zero, List.getD_cons_succ, or_false, false_or, or_self, or_true, true_or, decide_true]; done))); intro os' s hR; obtain ⟨rfl, rfl⟩ := hR)); simp only [WS, JA, JB, wI64, wU64, Int.reduceAdd, Int.reduceSub, Int.reduceMul, Int.reduceLE, Int.reduceLT, Int.reduceNeg, Int.reduceToNat, Int.cast_ofNat_Int, sx0, sx1, sx2, sx3, sx4, sx5, sx6, sx7, sy0, sy1, List.filterMap_cons, JC, JD, WT, JE, JF, JG, JH, JI, JJ, JK, WU, JL, JM, JN, JO, WV, JP, JQ, WW, JR, JS, JT, JU, JV, JW, JX, JY, JZ, WA, WB, WC, WD, WE, WF, WG, WH, WI, WJ, WK, WL, WM, WN, true_and, and_true, reduceCtorEq, ↓reduceIte, ↓bifT, ↓bifF, ↓gifT, ↓gifF, eq_self, WO, WP, WQ, Nat.reduceLT, Nat.reduceLeDiff, Nat.reduceAdd, Nat.reduceSub, Nat.reduceMul, Nat.reduceMod, WR, Nat.reduceBEq, Int.reduceBEq, Int.reduceBNe, BEq.rfl, hnt, hT])
    | (refine SX.block ?_)
    | (refine and_mk ?_ ?_; (focus first | decide | omega | rfl | assumption | (simp only [List.length_append, List.length_cons, List.length_nil, B_size]; omega) | (simp; done)))
    | (refine And.intro ?_ ?_))
  all_goals (try refine Done.mk ?_)
  all_goals exact hN0 _ _ ⟨rfl, rfl⟩
theorem wflag_no (l : List UInt8) (num : Nat) : Ctr Tryd.prog [] 68 (bldr l) [.one (.c (.loc 0 0)), vv (.int .i64 num), vv (.bool false)] (fun os r => os = bldr l ∧ r = .tup []) := by
  intro X0 hP0 hG0 N0 hN0
  refine CallVC.inline (f := 68) (by rw [hP0]; exact Tryd.func68) rfl Tryd.ntmps68 rfl (by simp) ?_
  intro X K hU hnt hbl hK
  have hP : X.P = Tryd.prog := by rw [hU.P, hP0]
  have hG := hG0.under hU
  have hT : calleeOk X.P 66 = true := by rw [hP]; exact Ty.co66
  simp only [WS, JA, JB, wI64, wU64, Int.reduceAdd, Int.reduceSub, Int.reduceMul, Int.reduceLE, Int.reduceLT, Int.reduceNeg, Int.reduceToNat, Int.cast_ofNat_Int, sx0, sx1, sx2, sx3, sx4, sx5, sx6, sx7, sy0, sy1, List.filterMap_cons, JC, JD, WT, JE, JF, JG, JH, JI, JJ, JK, WU, JL, JM, JN, JO, WV, JP, JQ, WW, JR, JS, JT, JU, JV, JW, JX, JY, JZ, WA, WB, WC, WD, WE, WF, WG, WH, WI, WJ, WK, WL, WM, WN, true_and, and_true, reduceCtorEq, ↓reduceIte, ↓bifT, ↓bifF, ↓gifT, ↓gifF, eq_self, WO, WP, WQ, Nat.reduceLT, Nat.reduceLeDiff, Nat.reduceAdd, Nat.reduceSub, Nat.reduceMul, Nat.reduceMod, WR, Nat.reduceBEq, Int.reduceBEq, Int.reduceBNe, BEq.rfl] at hbl ⊢
  repeat' (first
    | (refine SX.seqK ?_; intro N hN)
    | ((first | (refine SX.ops ?_)); simp only [WS, JA, JB, wI64, wU64, Int.reduceAdd, Int.reduceSub, Int.reduceMul, Int.reduceLE, Int.reduceLT, Int.reduceNeg, Int.reduceToNat, Int.cast_ofNat_Int, sx0, sx1, sx2, sx3, sx4, sx5, sx6, sx7, sy0, sy1, List.filterMap_cons, JC, JD, WT, JE, JF, JG, JH, JI, JJ, JK, WU, JL, JM, JN, JO, WV, JP, JQ, WW, JR, JS, JT, JU, JV, JW, JX, JY, JZ, WA, WB, WC, WD, WE, WF, WG, WH, WI, WJ, WK, WL, WM, WN, true_and, and_true, reduceCtorEq, ↓reduceIte, ↓bifT, ↓bifF, ↓gifT, ↓gifF, eq_self, WO, WP, WQ, Nat.reduceLT, Nat.reduceLeDiff, Nat.reduceAdd, Nat.reduceSub, Nat.reduceMul, Nat.reduceMod, WR, Nat.reduceBEq, Int.reduceBEq, Int.reduceBNe, BEq.rfl, hnt, hT])
    | ((first | refine SX.skip ?_ | refine SX.exit ?_ | refine SX.label ?_); try simp only [WS, JA, JB, wI64, wU64, Int.reduceAdd, Int.reduceSub, Int.reduceMul, Int.reduceLE, Int.reduceLT, Int.reduceNeg, Int.reduceToNat, Int.cast_ofNat_Int, sx0, sx1, sx2, sx3, sx4, sx5, sx6, sx7, sy0, sy1, List.filterMap_cons, JC, JD, WT, JE, JF, JG, JH, JI, JJ, JK, WU, JL, JM, JN, JO, WV, JP, JQ, WW, JR, JS, JT, JU, JV, JW, JX, JY, JZ, WA, WB, WC, WD, WE, WF, WG, WH, WI, WJ, WK, WL, WM, WN, true_and, and_true, reduceCtorEq, ↓reduceIte, ↓bifT, ↓bifF, ↓gifT, ↓gifF, eq_self, WO, WP, WQ, Nat.reduceLT, Nat.reduceLeDiff, Nat.reduceAdd, Nat.reduceSub, Nat.reduceMul, Nat.reduceMod, WR, Nat.reduceBEq, Int.reduceBEq, Int.reduceBNe, BEq.rfl])
    | (refine SX.cond rfl (fun hb => ?_) (fun hb => ?_) <;> ((first | cases hb | (simp only [decide_eq_true_eq, decide_eq_false_iff_not, beq_iff_eq, beq_eq_false_iff_ne, bne_iff_ne, Bool.and_eq_true, Bool.or_eq_true, Bool.not_eq_true', Bool.not_eq_false', Bool.and_eq_false_iff, Bool.or_eq_false_iff, Int.not_lt, Int.not_le] at hb) | skip) <;> (first | (exfalso; omega) | skip)))
    | (refine SX.ret ?_; try simp only [WS, JA, JB, wI64, wU64, Int.reduceAdd, Int.reduceSub, Int.reduceMul, Int.reduceLE, Int.reduceLT, Int.reduceNeg, Int.reduceToNat, Int.cast_ofNat_Int, sx0, sx1, sx2, sx3, sx4, sx5, sx6, sx7, sy0, sy1, List.filterMap_cons, JC, JD, WT, JE, JF, JG, JH, JI, JJ, JK, WU, JL, JM, JN, JO, WV, JP, JQ, WW, JR, JS, JT, JU, JV, JW, JX, JY, JZ, WA, WB, WC, WD, WE, WF, WG, WH, WI, WJ, WK, WL, WM, WN, true_and, and_true, reduceCtorEq, ↓reduceIte, ↓bifT, ↓bifF, ↓gifT, ↓gifF, eq_self, WO, WP, WQ, Nat.reduceLT, Nat.reduceLeDiff, Nat.reduceAdd, Nat.reduceSub, Nat.reduceMul, Nat.reduceMod, WR, Nat.reduceBEq, Int.reduceBEq, Int.reduceBNe, BEq.rfl])
    | (refine hN _ ?_; clear hN N)
    | ((first | refine hK _ _ (FinI.ret3 ?_) | refine hK _ _ (FinI.nrm3 ?_)); simp only [WS, JA, JB, wI64, wU64, Int.reduceAdd, Int.reduceSub, Int.reduceMul, Int.reduceLE, Int.reduceLT, Int.reduceNeg, Int.reduceToNat, Int.cast_ofNat_Int, sx0, sx1, sx2, sx3, sx4, sx5, sx6, sx7, sy0, sy1, List.filterMap_cons, JC, JD, WT, JE, JF, JG, JH, JI, JJ, JK, WU, JL, JM, JN, JO, WV, JP, JQ, WW, JR, JS, JT, JU, JV, JW, JX, JY, JZ, WA, WB, WC, WD, WE, WF, WG, WH, WI, WJ, WK, WL, WM, WN, true_and, and_true, reduceCtorEq, ↓reduceIte, ↓bifT, ↓bifF, ↓gifT, ↓gifF, eq_self, WO, WP, WQ, Nat.reduceLT, Nat.reduceLeDiff, Nat.reduceAdd, Nat.reduceSub, Nat.reduceMul, Nat.reduceMod, WR, Nat.reduceBEq, Int.reduceBEq, Int.reduceBNe, BEq.rfl, finP_s, hnt, hT]; refine Done.out ?_)
    | (clear hN N; first | (refine hN _ ?_; clear hN N) | (clear hN N; first | (refine hN _ ?_; clear hN N) | (clear hN N; first | (refine hN _ ?_; clear hN N) | (clear hN N; first | (refine hN _ ?_; clear hN N) | (clear hN N; first | (refine hN _ ?_; clear hN N) | (refine hN _ ?_; clear hN N))))))
    | (refine bif2.mk (fun hb => ?_) (fun hb => ?_) <;> (try simp only [hb, WS, JA, JB, wI64, wU64, Int.reduceAdd, Int.reduceSub, Int.reduceMul, Int.reduceLE, Int.reduceLT, Int.reduceNeg, Int.reduceToNat, Int.cast_ofNat_Int, sx0, sx1, sx2, sx3, sx4, sx5, sx6, sx7, sy0, sy1, List.filterMap_cons, JC, JD, WT, JE, JF, JG, JH, JI, JJ, JK, WU, JL, JM, JN, JO, WV, JP, JQ, WW, JR, JS, JT, JU, JV, JW, JX, JY, JZ, WA, WB, WC, WD, WE, WF, WG, WH, WI, WJ, WK, WL, WM, WN, true_and, and_true, reduceCtorEq, ↓reduceIte, ↓bifT, ↓bifF, ↓gifT, ↓gifF, eq_self, WO, WP, WQ, Nat.reduceLT, Nat.reduceLeDiff, Nat.reduceAdd, Nat.reduceSub, Nat.reduceMul, Nat.reduceMod, WR, Nat.reduceBEq, Int.reduceBEq, Int.reduceBNe, BEq.rfl, hnt, hT]) <;> ((first | cases hb | (simp only [decide_eq_true_eq, decide_eq_false_iff_not, beq_iff_eq, beq_eq_false_iff_ne, bne_iff_ne, Bool.and_eq_true, Bool.or_eq_true, Bool.not_eq_true', Bool.not_eq_false', Bool.and_eq_false_iff, Bool.or_eq_false_iff, Int.not_lt, Int.not_le] at hb) | skip) <;> (first | (exfalso; omega) | skip)))
    | (refine SX.block ?_)
    | (refine and_mk ?_ ?_; (focus first | decide | omega | rfl | assumption | (simp only [List.length_append, List.length_cons, List.length_nil, B_size]; omega) | (simp; done)))
    | (refine And.intro ?_ ?_))
  all_goals (try refine Done.mk ?_)
  all_goals exact hN0 _ _ ⟨rfl, rfl⟩
end Go.Proofs.YtbdacbcpniegiaaDoor
namespace Go.Proofs.YtbdacbcpniegiaaDoor
open Go Go.RowKit Go.Proofs Go.Sx
set_option maxHeartbeats 4000000
set_option maxRecDepth 100000
set_option linter.unusedSimpArgs false
set_option linter.unusedVariables false
def statusBytes (t : Nat) (s : List UInt8) (q : Nat) (ok : Bool) (d : List UInt8) : List UInt8 :=
  [4] ++ numB 1 t ++ textB 2 s ++ numB 3 q ++ (if ok then numB 4 1 else []) ++ (if d = [] then [] else textB 5 d)
theorem putStatus_no (t : Int) (s : List UInt8) (q : Int) (ok : Bool) (d : List UInt8) (hs : s.length ≤ 4611686018427387904) (h : statusB t s q ok d = false) (w : World) :
    Calls Tryd.prog 19 #[.agg #[.int .i64 t, .string (B s), .int .u64 q, .bool ok, .string (B d)]] w fun e w' => e = .returned (.tuple #[.string (B []), .bool false]) ∧ Below w.heap.size w w' := by
  refine calls_pureK (args := [.agg #[.int .i64 t, .string (B s), .int .u64 q, .bool ok, .string (B d)]]) w Tryd.func19 rfl Tryd.ntmps19 (by simp) ?_
  intro X K hX hK
  have hnt : X.nt = 35 := by rw [hX]
  have hwi : X.wi = w := by rw [hX]
  have hP : X.P = Tryd.prog := by rw [hX]
  have hown : X.own = [] := by rw [hX]
  have hbl : X.base.length = 0 := by rw [hX]; rfl
  clear hX
  have hT : aggOf X.P 30 = some true ∧ szOf X.P 30 = some 5 ∧ calleeOk X.P 64 = true ∧ zeroCells X.P 123 = some [(Value.pointer none), (Value.slice none 0 0)] ∧ fieldOff X.P 123 0 = some 0 ∧ calleeOk X.P 65 = true ∧ fieldOff X.P 30 0 = some 0 ∧ fieldOff X.P 26 0 = some 0 ∧ aggOf X.P 3 = some false ∧ szOf X.P 3 = some 1 ∧ X.P.underlying 3 = some (TypeDesc.int IntKind.i64) ∧ X.P.underlying 22 = some (TypeDesc.int IntKind.u64) ∧ isBytesT X.P 3 = false ∧ isStrT X.P 22 = false ∧ calleeOk X.P 66 = true ∧ fieldOff X.P 26 1 = some 1 ∧ aggOf X.P 9 = some false ∧ szOf X.P 9 = some 1 ∧ elemSz X.P 38 = some (9, 1) ∧ zeroCells X.P 9 = some [(Value.string { data := #[] })] ∧ calleeOk X.P 67 = true ∧ fieldOff X.P 30 1 = some 2 ∧ aggOf X.P 22 = some false ∧ szOf X.P 22 = some 1 ∧ fieldOff X.P 30 2 = some 3 ∧ aggOf X.P 4 = some false ∧ szOf X.P 4 = some 1 ∧ calleeOk X.P 68 = true ∧ fieldOff X.P 30 3 = some 4 ∧ calleeOk X.P 69 = true := by rw [hP]; exact ⟨Ty.ag30, Ty.sz30, Ty.co64, Ty.ze123, Ty.fo123_0, Ty.co65, Ty.fo30_0, Ty.fo26_0, Ty.ag3, Ty.sz3, Tryd.underlying3, Tryd.underlying22, Ty.ib3, Ty.is22, Ty.co66, Ty.fo26_1, Ty.ag9, Ty.sz9, Ty.el38, Ty.ze9, Ty.co67, Ty.fo30_1, Ty.ag22, Ty.sz22, Ty.fo30_2, Ty.ag4, Ty.sz4, Ty.co68, Ty.fo30_3, Ty.co69⟩
  repeat' (first
    | (refine SX.seqK ?_; intro N hN)
    | ((first | (refine SX.ops ?_)); simp only [WS, JA, JB, wI64, wU64, Int.reduceAdd, Int.reduceSub, Int.reduceMul, Int.reduceLE, Int.reduceLT, Int.reduceNeg, Int.reduceToNat, Int.cast_ofNat_Int, sx0, sx1, sx2, sx3, sx4, sx5, sx6, sx7, sy0, sy1, List.filterMap_cons, JC, JD, WT, JE, JF, JG, JH, JI, JJ, JK, WU, JL, JM, JN, JO, WV, JP, JQ, WW, JR, JS, JT, JU, JV, JW, JX, JY, JZ, WA, WB, WC, WD, WE, WF, WG, WH, WI, WJ, WK, WL, WM, WN, true_and, and_true, reduceCtorEq, ↓reduceIte, ↓bifT, ↓bifF, ↓gifT, ↓gifF, eq_self, WO, WP, WQ, Nat.reduceLT, Nat.reduceLeDiff, Nat.reduceAdd, Nat.reduceSub, Nat.reduceMul, Nat.reduceMod, WR, Nat.reduceBEq, Int.reduceBEq, Int.reduceBNe, BEq.rfl, hnt, hT, h])
    | ((first | refine SX.skip ?_ | refine SX.exit ?_ | refine SX.label ?_); try simp only [WS, JA, JB, wI64, wU64, Int.reduceAdd, Int.reduceSub, Int.reduceMul, Int.reduceLE, Int.reduceLT, Int.reduceNeg, Int.reduceToNat, Int.cast_ofNat_Int, sx0, sx1, sx2, sx3, sx4, sx5, sx6, sx7, sy0, sy1, List.filterMap_cons, JC, JD, WT, JE, JF, JG, JH, JI, JJ, JK, WU, JL, JM, JN, JO, WV, JP, JQ, WW, JR, JS, JT, JU, JV, JW, JX, JY, JZ, WA, WB, WC, WD, WE, WF, WG, WH, WI, WJ, WK, WL, WM, WN, true_and, and_true, reduceCtorEq, ↓reduceIte, ↓bifT, ↓bifF, ↓gifT, ↓gifF, eq_self, WO, WP, WQ, Nat.reduceLT, Nat.reduceLeDiff, Nat.reduceAdd, Nat.reduceSub, Nat.reduceMul, Nat.reduceMod, WR, Nat.reduceBEq, Int.reduceBEq, Int.reduceBNe, BEq.rfl])
    | (refine SX.cond rfl (fun hb => ?_) (fun hb => ?_) <;> ((first | cases hb | (simp only [decide_eq_true_eq, decide_eq_false_iff_not, beq_iff_eq, beq_eq_false_iff_ne, bne_iff_ne, Bool.and_eq_true, Bool.or_eq_true, Bool.not_eq_true', Bool.not_eq_false', Bool.and_eq_false_iff, Bool.or_eq_false_iff, Int.not_lt, Int.not_le] at hb) | skip) <;> (first | (exfalso; omega) | skip)))
    | (refine SX.ret ?_; try simp only [WS, JA, JB, wI64, wU64, Int.reduceAdd, Int.reduceSub, Int.reduceMul, Int.reduceLE, Int.reduceLT, Int.reduceNeg, Int.reduceToNat, Int.cast_ofNat_Int, sx0, sx1, sx2, sx3, sx4, sx5, sx6, sx7, sy0, sy1, List.filterMap_cons, JC, JD, WT, JE, JF, JG, JH, JI, JJ, JK, WU, JL, JM, JN, JO, WV, JP, JQ, WW, JR, JS, JT, JU, JV, JW, JX, JY, JZ, WA, WB, WC, WD, WE, WF, WG, WH, WI, WJ, WK, WL, WM, WN, true_and, and_true, reduceCtorEq, ↓reduceIte, ↓bifT, ↓bifF, ↓gifT, ↓gifF, eq_self, WO, WP, WQ, Nat.reduceLT, Nat.reduceLeDiff, Nat.reduceAdd, Nat.reduceSub, Nat.reduceMul, Nat.reduceMod, WR, Nat.reduceBEq, Int.reduceBEq, Int.reduceBNe, BEq.rfl])
    | (refine hN _ ?_; clear hN N)
    | (refine hK _ _ (Fin.res rfl hown ?_); simp only [WS, JA, JB, wI64, wU64, Int.reduceAdd, Int.reduceSub, Int.reduceMul, Int.reduceLE, Int.reduceLT, Int.reduceNeg, Int.reduceToNat, Int.cast_ofNat_Int, sx0, sx1, sx2, sx3, sx4, sx5, sx6, sx7, sy0, sy1, List.filterMap_cons, JC, JD, WT, JE, JF, JG, JH, JI, JJ, JK, WU, JL, JM, JN, JO, WV, JP, JQ, WW, JR, JS, JT, JU, JV, JW, JX, JY, JZ, WA, WB, WC, WD, WE, WF, WG, WH, WI, WJ, WK, WL, WM, WN, true_and, and_true, reduceCtorEq, ↓reduceIte, ↓bifT, ↓bifF, ↓gifT, ↓gifF, eq_self, WO, WP, WQ, Nat.reduceLT, Nat.reduceLeDiff, Nat.reduceAdd, Nat.reduceSub, Nat.reduceMul, Nat.reduceMod, WR, Nat.reduceBEq, Int.reduceBEq, Int.reduceBNe, BEq.rfl, f_a, f_b, f_n, f_c, f_B, f_v, f_g, f_0, f_1, f_2, hT, hwi, h]; intro w' hbel; refine Done.out ?_)
    | (clear hN N; first | (refine hN _ ?_; clear hN N) | (clear hN N; first | (refine hN _ ?_; clear hN N) | (clear hN N; first | (refine hN _ ?_; clear hN N) | (clear hN N; first | (refine hN _ ?_; clear hN N) | (clear hN N; first | (refine hN _ ?_; clear hN N) | (refine hN _ ?_; clear hN N))))))
    | (refine bif2.mk (fun hb => ?_) (fun hb => ?_) <;> (try simp only [hb, WS, JA, JB, wI64, wU64, Int.reduceAdd, Int.reduceSub, Int.reduceMul, Int.reduceLE, Int.reduceLT, Int.reduceNeg, Int.reduceToNat, Int.cast_ofNat_Int, sx0, sx1, sx2, sx3, sx4, sx5, sx6, sx7, sy0, sy1, List.filterMap_cons, JC, JD, WT, JE, JF, JG, JH, JI, JJ, JK, WU, JL, JM, JN, JO, WV, JP, JQ, WW, JR, JS, JT, JU, JV, JW, JX, JY, JZ, WA, WB, WC, WD, WE, WF, WG, WH, WI, WJ, WK, WL, WM, WN, true_and, and_true, reduceCtorEq, ↓reduceIte, ↓bifT, ↓bifF, ↓gifT, ↓gifF, eq_self, WO, WP, WQ, Nat.reduceLT, Nat.reduceLeDiff, Nat.reduceAdd, Nat.reduceSub, Nat.reduceMul, Nat.reduceMod, WR, Nat.reduceBEq, Int.reduceBEq, Int.reduceBNe, BEq.rfl, hnt, hT, h]) <;> ((first | cases hb | (simp only [decide_eq_true_eq, decide_eq_false_iff_not, beq_iff_eq, beq_eq_false_iff_ne, bne_iff_ne, Bool.and_eq_true, Bool.or_eq_true, Bool.not_eq_true', Bool.not_eq_false', Bool.and_eq_false_iff, Bool.or_eq_false_iff, Int.not_lt, Int.not_le] at hb) | skip) <;> (first | (exfalso; omega) | skip)))
    | ((first | (refine CallVC.pv hP (statusRight_any _ _ _ _ _ hs) rfl ?_) | (refine CallQ.pv hP (statusRight_any _ _ _ _ _ hs) rfl ?_)); simp only [WS, JA, JB, wI64, wU64, Int.reduceAdd, Int.reduceSub, Int.reduceMul, Int.reduceLE, Int.reduceLT, Int.reduceNeg, Int.reduceToNat, Int.cast_ofNat_Int, sx0, sx1, sx2, sx3, sx4, sx5, sx6, sx7, sy0, sy1, List.filterMap_cons, JC, JD, WT, JE, JF, JG, JH, JI, JJ, JK, WU, JL, JM, JN, JO, WV, JP, JQ, WW, JR, JS, JT, JU, JV, JW, JX, JY, JZ, WA, WB, WC, WD, WE, WF, WG, WH, WI, WJ, WK, WL, WM, WN, true_and, and_true, reduceCtorEq, ↓reduceIte, ↓bifT, ↓bifF, ↓gifT, ↓gifF, eq_self, WO, WP, WQ, Nat.reduceLT, Nat.reduceLeDiff, Nat.reduceAdd, Nat.reduceSub, Nat.reduceMul, Nat.reduceMod, WR, Nat.reduceBEq, Int.reduceBEq, Int.reduceBNe, BEq.rfl, hnt, hT, h])
    | (refine SX.block ?_)
    | (refine and_mk ?_ ?_; (focus first | decide | omega | rfl | assumption | (simp only [List.length_append, List.length_cons, List.length_nil, B_size]; omega) | (simp; done)))
    | (refine And.intro ?_ ?_))
  all_goals (try refine Done.mk ?_)
  all_goals exact hbel
theorem numB_len (num n : Nat) (h1 : num < 536870912) (hn : n < 18446744073709551616) : (numB num n).length ≤ 20 := by
  have hl1 := NW.varint_len10 (n := num * 8) (by omega)
  have hl2 := NW.varint_len10 (n := n) (by omega)
  simp [numB]; omega
theorem textB_len (num : Nat) (s : List UInt8) (h1 : num < 536870912) (hs : s.length < 4294967296) : (textB num s).length ≤ 20 + s.length := by
  have hl1 := NW.varint_len10 (n := num * 8 + 2) (by omega)
  have hl2 := NW.varint_len10 (n := s.length) (by omega)
  simp [textB]; omega
theorem putStatus_ok (t : Nat) (s : List UInt8) (q : Nat) (hs : s.length < 4294967296) (hq : q < 18446744073709551616) (ht : t ≤ 5) (ht1 : 1 ≤ t) (hq1 : 0 < q) (h : statusB t s q true [] = true) (w : World) :
    Calls Tryd.prog 19 #[.agg #[.int .i64 t, .string (B s), .int .u64 q, .bool true, .string (B [])]] w fun e w' => e = .returned (.tuple #[.string (B (statusBytes t s q true [])), .bool true]) ∧ Below w.heap.size w w' := by
  have e1 : IntKind.u64.wrap (t : Int) = (t : Int) := wU64 (by omega) (by omega)
  have n1 := numB_len 1 t (by decide) (by omega)
  have n2 := textB_len 2 s (by decide) hs
  have n3 := numB_len 3 q (by decide) hq
  have n4 := numB_len 4 1 (by decide) (by decide)
  refine calls_pureK (args := [.agg #[.int .i64 t, .string (B s), .int .u64 q, .bool true, .string (B [])]]) w Tryd.func19 rfl Tryd.ntmps19 (by simp) ?_
  intro X K hX hK
  have hnt : X.nt = 35 := by rw [hX]
  have hwi : X.wi = w := by rw [hX]
  have hP : X.P = Tryd.prog := by rw [hX]
  have hown : X.own = [] := by rw [hX]
  have hbl : X.base.length = 0 := by rw [hX]; rfl
  clear hX
  have hT : aggOf X.P 30 = some true ∧ szOf X.P 30 = some 5 ∧ calleeOk X.P 64 = true ∧ zeroCells X.P 123 = some [(Value.pointer none), (Value.slice none 0 0)] ∧ fieldOff X.P 123 0 = some 0 ∧ calleeOk X.P 65 = true ∧ fieldOff X.P 30 0 = some 0 ∧ fieldOff X.P 26 0 = some 0 ∧ aggOf X.P 3 = some false ∧ szOf X.P 3 = some 1 ∧ X.P.underlying 3 = some (TypeDesc.int IntKind.i64) ∧ X.P.underlying 22 = some (TypeDesc.int IntKind.u64) ∧ isBytesT X.P 3 = false ∧ isStrT X.P 22 = false ∧ calleeOk X.P 66 = true ∧ fieldOff X.P 26 1 = some 1 ∧ aggOf X.P 9 = some false ∧ szOf X.P 9 = some 1 ∧ elemSz X.P 38 = some (9, 1) ∧ zeroCells X.P 9 = some [(Value.string { data := #[] })] ∧ calleeOk X.P 67 = true ∧ fieldOff X.P 30 1 = some 2 ∧ aggOf X.P 22 = some false ∧ szOf X.P 22 = some 1 ∧ fieldOff X.P 30 2 = some 3 ∧ aggOf X.P 4 = some false ∧ szOf X.P 4 = some 1 ∧ calleeOk X.P 68 = true ∧ fieldOff X.P 30 3 = some 4 ∧ calleeOk X.P 69 = true := by rw [hP]; exact ⟨Ty.ag30, Ty.sz30, Ty.co64, Ty.ze123, Ty.fo123_0, Ty.co65, Ty.fo30_0, Ty.fo26_0, Ty.ag3, Ty.sz3, Tryd.underlying3, Tryd.underlying22, Ty.ib3, Ty.is22, Ty.co66, Ty.fo26_1, Ty.ag9, Ty.sz9, Ty.el38, Ty.ze9, Ty.co67, Ty.fo30_1, Ty.ag22, Ty.sz22, Ty.fo30_2, Ty.ag4, Ty.sz4, Ty.co68, Ty.fo30_3, Ty.co69⟩
  repeat' (first
    | (refine SX.seqK ?_; intro N hN)
    | ((first | (refine SX.ops ?_)); simp only [WS, JA, JB, wI64, wU64, Int.reduceAdd, Int.reduceSub, Int.reduceMul, Int.reduceLE, Int.reduceLT, Int.reduceNeg, Int.reduceToNat, Int.cast_ofNat_Int, sx0, sx1, sx2, sx3, sx4, sx5, sx6, sx7, sy0, sy1, List.filterMap_cons, JC, JD, WT, JE, JF, JG, JH, JI, JJ, JK, WU, JL, JM, JN, JO, WV, JP, JQ, WW, JR, JS, JT, JU, JV, JW, JX, JY, JZ, WA, WB, WC, WD, WE, WF, WG, WH, WI, WJ, WK, WL, WM, WN, true_and, and_true, reduceCtorEq, ↓reduceIte, ↓bifT, ↓bifF, ↓gifT, ↓gifF, eq_self, WO, WP, WQ, Nat.reduceLT, Nat.reduceLeDiff, Nat.reduceAdd, Nat.reduceSub, Nat.reduceMul, Nat.reduceMod, WR, Nat.reduceBEq, Int.reduceBEq, Int.reduceBNe, BEq.rfl, hnt, hT, h, e1])
    | ((first | refine SX.skip ?_ | refine SX.exit ?_ | refine SX.label ?_); try simp only [WS, JA, JB, wI64, wU64, Int.reduceAdd, Int.reduceSub, Int.reduceMul, Int.reduceLE, Int.reduceLT, Int.reduceNeg, Int.reduceToNat, Int.cast_ofNat_Int, sx0, sx1, sx2, sx3, sx4, sx5, sx6, sx7, sy0, sy1, List.filterMap_cons, JC, JD, WT, JE, JF, JG, JH, JI, JJ, JK, WU, JL, JM, JN, JO, WV, JP, JQ, WW, JR, JS, JT, JU, JV, JW, JX, JY, JZ, WA, WB, WC, WD, WE, WF, WG, WH, WI, WJ, WK, WL, WM, WN, true_and, and_true, reduceCtorEq, ↓reduceIte, ↓bifT, ↓bifF, ↓gifT, ↓gifF, eq_self, WO, WP, WQ, Nat.reduceLT, Nat.reduceLeDiff, Nat.reduceAdd, Nat.reduceSub, Nat.reduceMul, Nat.reduceMod, WR, Nat.reduceBEq, Int.reduceBEq, Int.reduceBNe, BEq.rfl])
    | (refine SX.cond rfl (fun hb => ?_) (fun hb => ?_) <;> ((first | cases hb | (simp only [decide_eq_true_eq, decide_eq_false_iff_not, beq_iff_eq, beq_eq_false_iff_ne, bne_iff_ne, Bool.and_eq_true, Bool.or_eq_true, Bool.not_eq_true', Bool.not_eq_false', Bool.and_eq_false_iff, Bool.or_eq_false_iff, Int.not_lt, Int.not_le] at hb) | skip) <;> (first | (exfalso; omega) | skip)))
    | (refine SX.ret ?_; try simp only [WS, JA, JB, wI64, wU64, Int.reduceAdd, Int.reduceSub, Int.reduceMul, Int.reduceLE, Int.reduceLT, Int.reduceNeg, Int.reduceToNat, Int.cast_ofNat_Int, sx0, sx1, sx2, sx3, sx4, sx5, sx6, sx7, sy0, sy1, List.filterMap_cons, JC, JD, WT, JE, JF, JG, JH, JI, JJ, JK, WU, JL, JM, JN, JO, WV, JP, JQ, WW, JR, JS, JT, JU, JV, JW, JX, JY, JZ, WA, WB, WC, WD, WE, WF, WG, WH, WI, WJ, WK, WL, WM, WN, true_and, and_true, reduceCtorEq, ↓reduceIte, ↓bifT, ↓bifF, ↓gifT, ↓gifF, eq_self, WO, WP, WQ, Nat.reduceLT, Nat.reduceLeDiff, Nat.reduceAdd, Nat.reduceSub, Nat.reduceMul, Nat.reduceMod, WR, Nat.reduceBEq, Int.reduceBEq, Int.reduceBNe, BEq.rfl])
    | (refine hN _ ?_; clear hN N)
    | (refine hK _ _ (Fin.res rfl hown ?_); simp only [WS, JA, JB, wI64, wU64, Int.reduceAdd, Int.reduceSub, Int.reduceMul, Int.reduceLE, Int.reduceLT, Int.reduceNeg, Int.reduceToNat, Int.cast_ofNat_Int, sx0, sx1, sx2, sx3, sx4, sx5, sx6, sx7, sy0, sy1, List.filterMap_cons, JC, JD, WT, JE, JF, JG, JH, JI, JJ, JK, WU, JL, JM, JN, JO, WV, JP, JQ, WW, JR, JS, JT, JU, JV, JW, JX, JY, JZ, WA, WB, WC, WD, WE, WF, WG, WH, WI, WJ, WK, WL, WM, WN, true_and, and_true, reduceCtorEq, ↓reduceIte, ↓bifT, ↓bifF, ↓gifT, ↓gifF, eq_self, WO, WP, WQ, Nat.reduceLT, Nat.reduceLeDiff, Nat.reduceAdd, Nat.reduceSub, Nat.reduceMul, Nat.reduceMod, WR, Nat.reduceBEq, Int.reduceBEq, Int.reduceBNe, BEq.rfl, f_a, f_b, f_n, f_c, f_B, f_v, f_g, f_0, f_1, f_2, hT, hwi, h, e1]; intro w' hbel; refine Done.out ?_)
    | (clear hN N; first | (refine hN _ ?_; clear hN N) | (clear hN N; first | (refine hN _ ?_; clear hN N) | (clear hN N; first | (refine hN _ ?_; clear hN N) | (clear hN N; first | (refine hN _ ?_; clear hN N) | (clear hN N; first | (refine hN _ ?_; clear hN N) | (refine hN _ ?_; clear hN N))))))
    | (refine bif2.mk (fun hb => ?_) (fun hb => ?_) <;> (try simp only [hb, WS, JA, JB, wI64, wU64, Int.reduceAdd, Int.reduceSub, Int.reduceMul, Int.reduceLE, Int.reduceLT, Int.reduceNeg, Int.reduceToNat, Int.cast_ofNat_Int, sx0, sx1, sx2, sx3, sx4, sx5, sx6, sx7, sy0, sy1, List.filterMap_cons, JC, JD, WT, JE, JF, JG, JH, JI, JJ, JK, WU, JL, JM, JN, JO, WV, JP, JQ, WW, JR, JS, JT, JU, JV, JW, JX, JY, JZ, WA, WB, WC, WD, WE, WF, WG, WH, WI, WJ, WK, WL, WM, WN, true_and, and_true, reduceCtorEq, ↓reduceIte, ↓bifT, ↓bifF, ↓gifT, ↓gifF, eq_self, WO, WP, WQ, Nat.reduceLT, Nat.reduceLeDiff, Nat.reduceAdd, Nat.reduceSub, Nat.reduceMul, Nat.reduceMod, WR, Nat.reduceBEq, Int.reduceBEq, Int.reduceBNe, BEq.rfl, hnt, hT, h, e1]) <;> ((first | cases hb | (simp only [decide_eq_true_eq, decide_eq_false_iff_not, beq_iff_eq, beq_eq_false_iff_ne, bne_iff_ne, Bool.and_eq_true, Bool.or_eq_true, Bool.not_eq_true', Bool.not_eq_false', Bool.and_eq_false_iff, Bool.or_eq_false_iff, Int.not_lt, Int.not_le] at hb) | skip) <;> (first | (exfalso; omega) | skip)))
    | ((first | (refine CallVC.pv hP (statusRight_any _ _ _ _ _ (by omega)) rfl ?_) | (refine CallQ.pv hP (statusRight_any _ _ _ _ _ (by omega)) rfl ?_) | (refine Ctr.use (writeByte_ctr 4) hP ?_ [1] ?_ rfl rfl ?_; (focus (intro p hp; cases hp)); (focus (refine LeR.of rfl trivial ?_ ?_ ?_ ?_ ?_ <;> first | decide | (simp only [WS, JA, JB, wI64, wU64, Int.reduceAdd, Int.reduceSub, Int.reduceMul, Int.reduceLE, Int.reduceLT, Int.reduceNeg, Int.reduceToNat, Int.cast_ofNat_Int, sx0, sx1, sx2, sx3, sx4, sx5, sx6, sx7, sy0, sy1, List.filterMap_cons, JC, JD, WT, JE, JF, JG, JH, JI, JJ, JK, WU, JL, JM, JN, JO, WV, JP, JQ, WW, JR, JS, JT, JU, JV, JW, JX, JY, JZ, WA, WB, WC, WD, WE, WF, WG, WH, WI, WJ, WK, WL, WM, WN, true_and, and_true, reduceCtorEq, ↓reduceIte, ↓bifT, ↓bifF, ↓gifT, ↓gifF, eq_self, WO, WP, WQ, Nat.reduceLT, Nat.reduceLeDiff, Nat.reduceAdd, Nat.reduceSub, Nat.reduceMul, Nat.reduceMod, WR, Nat.reduceBEq, Int.reduceBEq, Int.reduceBNe, BEq.rfl, List.getD_cons_zero, List.getD_cons_succ, or_false, false_or, or_self, or_true, true_or, decide_true]; done))); intro os' s hR; obtain ⟨rfl, rfl⟩ := hR) | (refine Ctr.use (wnumber_ctr [4] 1 t (by decide) (by decide) (by omega) (by omega) (by simp)) hP ?_ [1,4] ?_ rfl rfl ?_; (focus (intro p hp; cases hp)); (focus (refine LeR.of rfl trivial ?_ ?_ ?_ ?_ ?_ <;> first | decide | (simp only [WS, JA, JB, wI64, wU64, Int.reduceAdd, Int.reduceSub, Int.reduceMul, Int.reduceLE, Int.reduceLT, Int.reduceNeg, Int.reduceToNat, Int.cast_ofNat_Int, sx0, sx1, sx2, sx3, sx4, sx5, sx6, sx7, sy0, sy1, List.filterMap_cons, JC, JD, WT, JE, JF, JG, JH, JI, JJ, JK, WU, JL, JM, JN, JO, WV, JP, JQ, WW, JR, JS, JT, JU, JV, JW, JX, JY, JZ, WA, WB, WC, WD, WE, WF, WG, WH, WI, WJ, WK, WL, WM, WN, true_and, and_true, reduceCtorEq, ↓reduceIte, ↓bifT, ↓bifF, ↓gifT, ↓gifF, eq_self, WO, WP, WQ, Nat.reduceLT, Nat.reduceLeDiff, Nat.reduceAdd, Nat.reduceSub, Nat.reduceMul, Nat.reduceMod, WR, Nat.reduceBEq, Int.reduceBEq, Int.reduceBNe, BEq.rfl, List.getD_cons_zero, List.getD_cons_succ, or_false, false_or, or_self, or_true, true_or, decide_true]; done))); intro os' s hR; obtain ⟨rfl, rfl⟩ := hR) | (refine Ctr.use (wlist1_ctr (4 :: numB 1 t) s 2 (by decide) (by decide) hs (by simp; omega)) hP ?_ [1,5,6] ?_ rfl rfl ?_; (focus (intro p hp; cases hp)); (focus (refine LeR.of rfl trivial ?_ ?_ ?_ ?_ ?_ <;> first | decide | (simp only [WS, JA, JB, wI64, wU64, Int.reduceAdd, Int.reduceSub, Int.reduceMul, Int.reduceLE, Int.reduceLT, Int.reduceNeg, Int.reduceToNat, Int.cast_ofNat_Int, sx0, sx1, sx2, sx3, sx4, sx5, sx6, sx7, sy0, sy1, List.filterMap_cons, JC, JD, WT, JE, JF, JG, JH, JI, JJ, JK, WU, JL, JM, JN, JO, WV, JP, JQ, WW, JR, JS, JT, JU, JV, JW, JX, JY, JZ, WA, WB, WC, WD, WE, WF, WG, WH, WI, WJ, WK, WL, WM, WN, true_and, and_true, reduceCtorEq, ↓reduceIte, ↓bifT, ↓bifF, ↓gifT, ↓gifF, eq_self, WO, WP, WQ, Nat.reduceLT, Nat.reduceLeDiff, Nat.reduceAdd, Nat.reduceSub, Nat.reduceMul, Nat.reduceMod, WR, Nat.reduceBEq, Int.reduceBEq, Int.reduceBNe, BEq.rfl, List.getD_cons_zero, List.getD_cons_succ, or_false, false_or, or_self, or_true, true_or, decide_true]; done))); intro os' s hR; obtain ⟨rfl, rfl⟩ := hR) | (refine Ctr.use (wnumber_ctr (4 :: (numB 1 t ++ textB 2 s)) 3 q (by decide) (by decide) hq1 hq (by simp; omega)) hP ?_ [1,7] ?_ rfl rfl ?_; (focus (intro p hp; cases hp)); (focus (refine LeR.of rfl trivial ?_ ?_ ?_ ?_ ?_ <;> first | decide | (simp only [WS, JA, JB, wI64, wU64, Int.reduceAdd, Int.reduceSub, Int.reduceMul, Int.reduceLE, Int.reduceLT, Int.reduceNeg, Int.reduceToNat, Int.cast_ofNat_Int, sx0, sx1, sx2, sx3, sx4, sx5, sx6, sx7, sy0, sy1, List.filterMap_cons, JC, JD, WT, JE, JF, JG, JH, JI, JJ, JK, WU, JL, JM, JN, JO, WV, JP, JQ, WW, JR, JS, JT, JU, JV, JW, JX, JY, JZ, WA, WB, WC, WD, WE, WF, WG, WH, WI, WJ, WK, WL, WM, WN, true_and, and_true, reduceCtorEq, ↓reduceIte, ↓bifT, ↓bifF, ↓gifT, ↓gifF, eq_self, WO, WP, WQ, Nat.reduceLT, Nat.reduceLeDiff, Nat.reduceAdd, Nat.reduceSub, Nat.reduceMul, Nat.reduceMod, WR, Nat.reduceBEq, Int.reduceBEq, Int.reduceBNe, BEq.rfl, List.getD_cons_zero, List.getD_cons_succ, or_false, false_or, or_self, or_true, true_or, decide_true]; done))); intro os' s hR; obtain ⟨rfl, rfl⟩ := hR) | (refine Ctr.use (wflag_yes (4 :: (numB 1 t ++ textB 2 s ++ numB 3 q)) 4 (by decide) (by decide) (by simp; omega)) hP ?_ [1,8] ?_ rfl rfl ?_; (focus (intro p hp; cases hp)); (focus (refine LeR.of rfl trivial ?_ ?_ ?_ ?_ ?_ <;> first | decide | (simp only [WS, JA, JB, wI64, wU64, Int.reduceAdd, Int.reduceSub, Int.reduceMul, Int.reduceLE, Int.reduceLT, Int.reduceNeg, Int.reduceToNat, Int.cast_ofNat_Int, sx0, sx1, sx2, sx3, sx4, sx5, sx6, sx7, sy0, sy1, List.filterMap_cons, JC, JD, WT, JE, JF, JG, JH, JI, JJ, JK, WU, JL, JM, JN, JO, WV, JP, JQ, WW, JR, JS, JT, JU, JV, JW, JX, JY, JZ, WA, WB, WC, WD, WE, WF, WG, WH, WI, WJ, WK, WL, WM, WN, true_and, and_true, reduceCtorEq, ↓reduceIte, ↓bifT, ↓bifF, ↓gifT, ↓gifF, eq_self, WO, WP, WQ, Nat.reduceLT, Nat.reduceLeDiff, Nat.reduceAdd, Nat.reduceSub, Nat.reduceMul, Nat.reduceMod, WR, Nat.reduceBEq, Int.reduceBEq, Int.reduceBNe, BEq.rfl, List.getD_cons_zero, List.getD_cons_succ, or_false, false_or, or_self, or_true, true_or, decide_true]; done))); intro os' s hR; obtain ⟨rfl, rfl⟩ := hR) | (refine Ctr.use (string_ctr (4 :: (numB 1 t ++ textB 2 s ++ numB 3 q ++ numB 4 1)) (by simp) (by simp; omega)) hP ?_ [1,9] ?_ rfl rfl ?_; (focus (intro p hp; cases hp)); (focus (refine LeR.of rfl trivial ?_ ?_ ?_ ?_ ?_ <;> first | decide | (simp only [WS, JA, JB, wI64, wU64, Int.reduceAdd, Int.reduceSub, Int.reduceMul, Int.reduceLE, Int.reduceLT, Int.reduceNeg, Int.reduceToNat, Int.cast_ofNat_Int, sx0, sx1, sx2, sx3, sx4, sx5, sx6, sx7, sy0, sy1, List.filterMap_cons, JC, JD, WT, JE, JF, JG, JH, JI, JJ, JK, WU, JL, JM, JN, JO, WV, JP, JQ, WW, JR, JS, JT, JU, JV, JW, JX, JY, JZ, WA, WB, WC, WD, WE, WF, WG, WH, WI, WJ, WK, WL, WM, WN, true_and, and_true, reduceCtorEq, ↓reduceIte, ↓bifT, ↓bifF, ↓gifT, ↓gifF, eq_self, WO, WP, WQ, Nat.reduceLT, Nat.reduceLeDiff, Nat.reduceAdd, Nat.reduceSub, Nat.reduceMul, Nat.reduceMod, WR, Nat.reduceBEq, Int.reduceBEq, Int.reduceBNe, BEq.rfl, List.getD_cons_zero, List.getD_cons_succ, or_false, false_or, or_self, or_true, true_or, decide_true]; done))); intro os' s hR; obtain ⟨rfl, rfl⟩ := hR)); simp only [WS, JA, JB, wI64, wU64, Int.reduceAdd, Int.reduceSub, Int.reduceMul, Int.reduceLE, Int.reduceLT, Int.reduceNeg, Int.reduceToNat, Int.cast_ofNat_Int, sx0, sx1, sx2, sx3, sx4, sx5, sx6, sx7, sy0, sy1, List.filterMap_cons, JC, JD, WT, JE, JF, JG, JH, JI, JJ, JK, WU, JL, JM, JN, JO, WV, JP, JQ, WW, JR, JS, JT, JU, JV, JW, JX, JY, JZ, WA, WB, WC, WD, WE, WF, WG, WH, WI, WJ, WK, WL, WM, WN, true_and, and_true, reduceCtorEq, ↓reduceIte, ↓bifT, ↓bifF, ↓gifT, ↓gifF, eq_self, WO, WP, WQ, Nat.reduceLT, Nat.reduceLeDiff, Nat.reduceAdd, Nat.reduceSub, Nat.reduceMul, Nat.reduceMod, WR, Nat.reduceBEq, Int.reduceBEq, Int.reduceBNe, BEq.rfl, hnt, hT, h, e1])
    | (refine SX.block ?_)
    | (refine and_mk ?_ ?_; (focus first | decide | omega | rfl | assumption | (simp only [List.length_append, List.length_cons, List.length_nil, B_size]; omega) | (simp; done)))
    | (refine And.intro ?_ ?_))
  all_goals (try refine Done.mk ?_)
  all_goals first | exact hbel | exact ⟨by simp [statusBytes], hbel⟩
theorem putStatus_plain (t : Nat) (s : List UInt8) (q : Nat) (hs : s.length < 4294967296) (hq : q < 18446744073709551616) (ht : t ≤ 5) (ht1 : 1 ≤ t) (hq1 : 0 < q) (h : statusB t s q false [] = true) (w : World) :
    Calls Tryd.prog 19 #[.agg #[.int .i64 t, .string (B s), .int .u64 q, .bool false, .string (B [])]] w fun e w' => e = .returned (.tuple #[.string (B (statusBytes t s q false [])), .bool true]) ∧ Below w.heap.size w w' := by
  have e1 : IntKind.u64.wrap (t : Int) = (t : Int) := wU64 (by omega) (by omega)
  have n1 := numB_len 1 t (by decide) (by omega)
  have n2 := textB_len 2 s (by decide) hs
  have n3 := numB_len 3 q (by decide) hq
  have n4 := numB_len 4 1 (by decide) (by decide)
  refine calls_pureK (args := [.agg #[.int .i64 t, .string (B s), .int .u64 q, .bool false, .string (B [])]]) w Tryd.func19 rfl Tryd.ntmps19 (by simp) ?_
  intro X K hX hK
  have hnt : X.nt = 35 := by rw [hX]
  have hwi : X.wi = w := by rw [hX]
  have hP : X.P = Tryd.prog := by rw [hX]
  have hown : X.own = [] := by rw [hX]
  have hbl : X.base.length = 0 := by rw [hX]; rfl
  clear hX
  have hT : aggOf X.P 30 = some true ∧ szOf X.P 30 = some 5 ∧ calleeOk X.P 64 = true ∧ zeroCells X.P 123 = some [(Value.pointer none), (Value.slice none 0 0)] ∧ fieldOff X.P 123 0 = some 0 ∧ calleeOk X.P 65 = true ∧ fieldOff X.P 30 0 = some 0 ∧ fieldOff X.P 26 0 = some 0 ∧ aggOf X.P 3 = some false ∧ szOf X.P 3 = some 1 ∧ X.P.underlying 3 = some (TypeDesc.int IntKind.i64) ∧ X.P.underlying 22 = some (TypeDesc.int IntKind.u64) ∧ isBytesT X.P 3 = false ∧ isStrT X.P 22 = false ∧ calleeOk X.P 66 = true ∧ fieldOff X.P 26 1 = some 1 ∧ aggOf X.P 9 = some false ∧ szOf X.P 9 = some 1 ∧ elemSz X.P 38 = some (9, 1) ∧ zeroCells X.P 9 = some [(Value.string { data := #[] })] ∧ calleeOk X.P 67 = true ∧ fieldOff X.P 30 1 = some 2 ∧ aggOf X.P 22 = some false ∧ szOf X.P 22 = some 1 ∧ fieldOff X.P 30 2 = some 3 ∧ aggOf X.P 4 = some false ∧ szOf X.P 4 = some 1 ∧ calleeOk X.P 68 = true ∧ fieldOff X.P 30 3 = some 4 ∧ calleeOk X.P 69 = true := by rw [hP]; exact ⟨Ty.ag30, Ty.sz30, Ty.co64, Ty.ze123, Ty.fo123_0, Ty.co65, Ty.fo30_0, Ty.fo26_0, Ty.ag3, Ty.sz3, Tryd.underlying3, Tryd.underlying22, Ty.ib3, Ty.is22, Ty.co66, Ty.fo26_1, Ty.ag9, Ty.sz9, Ty.el38, Ty.ze9, Ty.co67, Ty.fo30_1, Ty.ag22, Ty.sz22, Ty.fo30_2, Ty.ag4, Ty.sz4, Ty.co68, Ty.fo30_3, Ty.co69⟩
  repeat' (first
    | (refine SX.seqK ?_; intro N hN)
    | ((first | (refine SX.ops ?_)); simp only [WS, JA, JB, wI64, wU64, Int.reduceAdd, Int.reduceSub, Int.reduceMul, Int.reduceLE, Int.reduceLT, Int.reduceNeg, Int.reduceToNat, Int.cast_ofNat_Int, sx0, sx1, sx2, sx3, sx4, sx5, sx6, sx7, sy0, sy1, List.filterMap_cons, JC, JD, WT, JE, JF, JG, JH, JI, JJ, JK, WU, JL, JM, JN, JO, WV, JP, JQ, WW, JR, JS, JT, JU, JV, JW, JX, JY, JZ, WA, WB, WC, WD, WE, WF, WG, WH, WI, WJ, WK, WL, WM, WN, true_and, and_true, reduceCtorEq, ↓reduceIte, ↓bifT, ↓bifF, ↓gifT, ↓gifF, eq_self, WO, WP, WQ, Nat.reduceLT, Nat.reduceLeDiff, Nat.reduceAdd, Nat.reduceSub, Nat.reduceMul, Nat.reduceMod, WR, Nat.reduceBEq, Int.reduceBEq, Int.reduceBNe, BEq.rfl, hnt, hT, h, e1])
    | ((first | refine SX.skip ?_ | refine SX.exit ?_ | refine SX.label ?_); try simp only [WS, JA, JB, wI64, wU64, Int.reduceAdd, Int.reduceSub, Int.reduceMul, Int.reduceLE, Int.reduceLT, Int.reduceNeg, Int.reduceToNat, Int.cast_ofNat_Int, sx0, sx1, sx2, sx3, sx4, sx5, sx6, sx7, sy0, sy1, List.filterMap_cons, JC, JD, WT, JE, JF, JG, JH, JI, JJ, JK, WU, JL, JM, JN, JO, WV, JP, JQ, WW, JR, JS, JT, JU, JV, JW, JX, JY, JZ, WA, WB, WC, WD, WE, WF, WG, WH, WI, WJ, WK, WL, WM, WN, true_and, and_true, reduceCtorEq, ↓reduceIte, ↓bifT, ↓bifF, ↓gifT, ↓gifF, eq_self, WO, WP, WQ, Nat.reduceLT, Nat.reduceLeDiff, Nat.reduceAdd, Nat.reduceSub, Nat.reduceMul, Nat.reduceMod, WR, Nat.reduceBEq, Int.reduceBEq, Int.reduceBNe, BEq.rfl])
    | (refine SX.cond rfl (fun hb => ?_) (fun hb => ?_) <;> ((first | cases hb | (simp only [decide_eq_true_eq, decide_eq_false_iff_not, beq_iff_eq, beq_eq_false_iff_ne, bne_iff_ne, Bool.and_eq_true, Bool.or_eq_true, Bool.not_eq_true', Bool.not_eq_false', Bool.and_eq_false_iff, Bool.or_eq_false_iff, Int.not_lt, Int.not_le] at hb) | skip) <;> (first | (exfalso; omega) | skip)))
    | (refine SX.ret ?_; try simp only [WS, JA, JB, wI64, wU64, Int.reduceAdd, Int.reduceSub, Int.reduceMul, Int.reduceLE, Int.reduceLT, Int.reduceNeg, Int.reduceToNat, Int.cast_ofNat_Int, sx0, sx1, sx2, sx3, sx4, sx5, sx6, sx7, sy0, sy1, List.filterMap_cons, JC, JD, WT, JE, JF, JG, JH, JI, JJ, JK, WU, JL, JM, JN, JO, WV, JP, JQ, WW, JR, JS, JT, JU, JV, JW, JX, JY, JZ, WA, WB, WC, WD, WE, WF, WG, WH, WI, WJ, WK, WL, WM, WN, true_and, and_true, reduceCtorEq, ↓reduceIte, ↓bifT, ↓bifF, ↓gifT, ↓gifF, eq_self, WO, WP, WQ, Nat.reduceLT, Nat.reduceLeDiff, Nat.reduceAdd, Nat.reduceSub, Nat.reduceMul, Nat.reduceMod, WR, Nat.reduceBEq, Int.reduceBEq, Int.reduceBNe, BEq.rfl])
    | (refine hN _ ?_; clear hN N)
    | (refine hK _ _ (Fin.res rfl hown ?_); simp only [WS, JA, JB, wI64, wU64, Int.reduceAdd, Int.reduceSub, Int.reduceMul, Int.reduceLE, Int.reduceLT, Int.reduceNeg, Int.reduceToNat, Int.cast_ofNat_Int, sx0, sx1, sx2, sx3, sx4, sx5, sx6, sx7, sy0, sy1, List.filterMap_cons, JC, JD, WT, JE, JF, JG, JH, JI, JJ, JK, WU, JL, JM, JN, JO, WV, JP, JQ, WW, JR, JS, JT, JU, JV, JW, JX, JY, JZ, WA, WB, WC, WD, WE, WF, WG, WH, WI, WJ, WK, WL, WM, WN, true_and, and_true, reduceCtorEq, ↓reduceIte, ↓bifT, ↓bifF, ↓gifT, ↓gifF, eq_self, WO, WP, WQ, Nat.reduceLT, Nat.reduceLeDiff, Nat.reduceAdd, Nat.reduceSub, Nat.reduceMul, Nat.reduceMod, WR, Nat.reduceBEq, Int.reduceBEq, Int.reduceBNe, BEq.rfl, f_a, f_b, f_n, f_c, f_B, f_v, f_g, f_0, f_1, f_2, hT, hwi, h, e1]; intro w' hbel; refine Done.out ?_)
    | (clear hN N; first | (refine hN _ ?_; clear hN N) | (clear hN N; first | (refine hN _ ?_; clear hN N) | (clear hN N; first | (refine hN _ ?_; clear hN N) | (clear hN N; first | (refine hN _ ?_; clear hN N) | (clear hN N; first | (refine hN _ ?_; clear hN N) | (refine hN _ ?_; clear hN N))))))
    | (refine bif2.mk (fun hb => ?_) (fun hb => ?_) <;> (try simp only [hb, WS, JA, JB, wI64, wU64, Int.reduceAdd, Int.reduceSub, Int.reduceMul, Int.reduceLE, Int.reduceLT, Int.reduceNeg, Int.reduceToNat, Int.cast_ofNat_Int, sx0, sx1, sx2, sx3, sx4, sx5, sx6, sx7, sy0, sy1, List.filterMap_cons, JC, JD, WT, JE, JF, JG, JH, JI, JJ, JK, WU, JL, JM, JN, JO, WV, JP, JQ, WW, JR, JS, JT, JU, JV, JW, JX, JY, JZ, WA, WB, WC, WD, WE, WF, WG, WH, WI, WJ, WK, WL, WM, WN, true_and, and_true, reduceCtorEq, ↓reduceIte, ↓bifT, ↓bifF, ↓gifT, ↓gifF, eq_self, WO, WP, WQ, Nat.reduceLT, Nat.reduceLeDiff, Nat.reduceAdd, Nat.reduceSub, Nat.reduceMul, Nat.reduceMod, WR, Nat.reduceBEq, Int.reduceBEq, Int.reduceBNe, BEq.rfl, hnt, hT, h, e1]) <;> ((first | cases hb | (simp only [decide_eq_true_eq, decide_eq_false_iff_not, beq_iff_eq, beq_eq_false_iff_ne, bne_iff_ne, Bool.and_eq_true, Bool.or_eq_true, Bool.not_eq_true', Bool.not_eq_false', Bool.and_eq_false_iff, Bool.or_eq_false_iff, Int.not_lt, Int.not_le] at hb) | skip) <;> (first | (exfalso; omega) | skip)))
    | ((first | (refine CallVC.pv hP (statusRight_any _ _ _ _ _ (by omega)) rfl ?_) | (refine CallQ.pv hP (statusRight_any _ _ _ _ _ (by omega)) rfl ?_) | (refine Ctr.use (writeByte_ctr 4) hP ?_ [1] ?_ rfl rfl ?_; (focus (intro p hp; cases hp)); (focus (refine LeR.of rfl trivial ?_ ?_ ?_ ?_ ?_ <;> first | decide | (simp only [WS, JA, JB, wI64, wU64, Int.reduceAdd, Int.reduceSub, Int.reduceMul, Int.reduceLE, Int.reduceLT, Int.reduceNeg, Int.reduceToNat, Int.cast_ofNat_Int, sx0, sx1, sx2, sx3, sx4, sx5, sx6, sx7, sy0, sy1, List.filterMap_cons, JC, JD, WT, JE, JF, JG, JH, JI, JJ, JK, WU, JL, JM, JN, JO, WV, JP, JQ, WW, JR, JS, JT, JU, JV, JW, JX, JY, JZ, WA, WB, WC, WD, WE, WF, WG, WH, WI, WJ, WK, WL, WM, WN, true_and, and_true, reduceCtorEq, ↓reduceIte, ↓bifT, ↓bifF, ↓gifT, ↓gifF, eq_self, WO, WP, WQ, Nat.reduceLT, Nat.reduceLeDiff, Nat.reduceAdd, Nat.reduceSub, Nat.reduceMul, Nat.reduceMod, WR, Nat.reduceBEq, Int.reduceBEq, Int.reduceBNe, BEq.rfl, List.getD_cons_zero, List.getD_cons_succ, or_false, false_or, or_self, or_true, true_or, decide_true]; done))); intro os' s hR; obtain ⟨rfl, rfl⟩ := hR) | (refine Ctr.use (wnumber_ctr [4] 1 t (by decide) (by decide) (by omega) (by omega) (by simp)) hP ?_ [1,4] ?_ rfl rfl ?_; (focus (intro p hp; cases hp)); (focus (refine LeR.of rfl trivial ?_ ?_ ?_ ?_ ?_ <;> first | decide | (simp only [WS, JA, JB, wI64, wU64, Int.reduceAdd, Int.reduceSub, Int.reduceMul, Int.reduceLE, Int.reduceLT, Int.reduceNeg, Int.reduceToNat, Int.cast_ofNat_Int, sx0, sx1, sx2, sx3, sx4, sx5, sx6, sx7, sy0, sy1, List.filterMap_cons, JC, JD, WT, JE, JF, JG, JH, JI, JJ, JK, WU, JL, JM, JN, JO, WV, JP, JQ, WW, JR, JS, JT, JU, JV, JW, JX, JY, JZ, WA, WB, WC, WD, WE, WF, WG, WH, WI, WJ, WK, WL, WM, WN, true_and, and_true, reduceCtorEq, ↓reduceIte, ↓bifT, ↓bifF, ↓gifT, ↓gifF, eq_self, WO, WP, WQ, Nat.reduceLT, Nat.reduceLeDiff, Nat.reduceAdd, Nat.reduceSub, Nat.reduceMul, Nat.reduceMod, WR, Nat.reduceBEq, Int.reduceBEq, Int.reduceBNe, BEq.rfl, List.getD_cons_zero, List.getD_cons_succ, or_false, false_or, or_self, or_true, true_or, decide_true]; done))); intro os' s hR; obtain ⟨rfl, rfl⟩ := hR) | (refine Ctr.use (wlist1_ctr (4 :: numB 1 t) s 2 (by decide) (by decide) hs (by simp; omega)) hP ?_ [1,5,6] ?_ rfl rfl ?_; (focus (intro p hp; cases hp)); (focus (refine LeR.of rfl trivial ?_ ?_ ?_ ?_ ?_ <;> first | decide | (simp only [WS, JA, JB, wI64, wU64, Int.reduceAdd, Int.reduceSub, Int.reduceMul, Int.reduceLE, Int.reduceLT, Int.reduceNeg, Int.reduceToNat, Int.cast_ofNat_Int, sx0, sx1, sx2, sx3, sx4, sx5, sx6, sx7, sy0, sy1, List.filterMap_cons, JC, JD, WT, JE, JF, JG, JH, JI, JJ, JK, WU, JL, JM, JN, JO, WV, JP, JQ, WW, JR, JS, JT, JU, JV, JW, JX, JY, JZ, WA, WB, WC, WD, WE, WF, WG, WH, WI, WJ, WK, WL, WM, WN, true_and, and_true, reduceCtorEq, ↓reduceIte, ↓bifT, ↓bifF, ↓gifT, ↓gifF, eq_self, WO, WP, WQ, Nat.reduceLT, Nat.reduceLeDiff, Nat.reduceAdd, Nat.reduceSub, Nat.reduceMul, Nat.reduceMod, WR, Nat.reduceBEq, Int.reduceBEq, Int.reduceBNe, BEq.rfl, List.getD_cons_zero, List.getD_cons_succ, or_false, false_or, or_self, or_true, true_or, decide_true]; done))); intro os' s hR; obtain ⟨rfl, rfl⟩ := hR) | (refine Ctr.use (wnumber_ctr (4 :: (numB 1 t ++ textB 2 s)) 3 q (by decide) (by decide) hq1 hq (by simp; omega)) hP ?_ [1,7] ?_ rfl rfl ?_; (focus (intro p hp; cases hp)); (focus (refine LeR.of rfl trivial ?_ ?_ ?_ ?_ ?_ <;> first | decide | (simp only [WS, JA, JB, wI64, wU64, Int.reduceAdd, Int.reduceSub, Int.reduceMul, Int.reduceLE, Int.reduceLT, Int.reduceNeg, Int.reduceToNat, Int.cast_ofNat_Int, sx0, sx1, sx2, sx3, sx4, sx5, sx6, sx7, sy0, sy1, List.filterMap_cons, JC, JD, WT, JE, JF, JG, JH, JI, JJ, JK, WU, JL, JM, JN, JO, WV, JP, JQ, WW, JR, JS, JT, JU, JV, JW, JX, JY, JZ, WA, WB, WC, WD, WE, WF, WG, WH, WI, WJ, WK, WL, WM, WN, true_and, and_true, reduceCtorEq, ↓reduceIte, ↓bifT, ↓bifF, ↓gifT, ↓gifF, eq_self, WO, WP, WQ, Nat.reduceLT, Nat.reduceLeDiff, Nat.reduceAdd, Nat.reduceSub, Nat.reduceMul, Nat.reduceMod, WR, Nat.reduceBEq, Int.reduceBEq, Int.reduceBNe, BEq.rfl, List.getD_cons_zero, List.getD_cons_succ, or_false, false_or, or_self, or_true, true_or, decide_true]; done))); intro os' s hR; obtain ⟨rfl, rfl⟩ := hR) | (refine Ctr.use (wflag_no (4 :: (numB 1 t ++ textB 2 s ++ numB 3 q)) 4) hP ?_ [1,8] ?_ rfl rfl ?_; (focus (intro p hp; cases hp)); (focus (refine LeR.of rfl trivial ?_ ?_ ?_ ?_ ?_ <;> first | decide | (simp only [WS, JA, JB, wI64, wU64, Int.reduceAdd, Int.reduceSub, Int.reduceMul, Int.reduceLE, Int.reduceLT, Int.reduceNeg, Int.reduceToNat, Int.cast_ofNat_Int, sx0, sx1, sx2, sx3, sx4, sx5, sx6, sx7, sy0, sy1, List.filterMap_cons, JC, JD, WT, JE, JF, JG, JH, JI, JJ, JK, WU, JL, JM, JN, JO, WV, JP, JQ, WW, JR, JS, JT, JU, JV, JW, JX, JY, JZ, WA, WB, WC, WD, WE, WF, WG, WH, WI, WJ, WK, WL, WM, WN, true_and, and_true, reduceCtorEq, ↓reduceIte, ↓bifT, ↓bifF, ↓gifT, ↓gifF, eq_self, WO, WP, WQ, Nat.reduceLT, Nat.reduceLeDiff, Nat.reduceAdd, Nat.reduceSub, Nat.reduceMul, Nat.reduceMod, WR, Nat.reduceBEq, Int.reduceBEq, Int.reduceBNe, BEq.rfl, List.getD_cons_zero, List.getD_cons_succ, or_false, false_or, or_self, or_true, true_or, decide_true]; done))); intro os' s hR; obtain ⟨rfl, rfl⟩ := hR) | (refine Ctr.use (string_ctr (4 :: (numB 1 t ++ textB 2 s ++ numB 3 q)) (by simp) (by simp; omega)) hP ?_ [1,8] ?_ rfl rfl ?_; (focus (intro p hp; cases hp)); (focus (refine LeR.of rfl trivial ?_ ?_ ?_ ?_ ?_ <;> first | decide | (simp only [WS, JA, JB, wI64, wU64, Int.reduceAdd, Int.reduceSub, Int.reduceMul, Int.reduceLE, Int.reduceLT, Int.reduceNeg, Int.reduceToNat, Int.cast_ofNat_Int, sx0, sx1, sx2, sx3, sx4, sx5, sx6, sx7, sy0, sy1, List.filterMap_cons, JC, JD, WT, JE, JF, JG, JH, JI, JJ, JK, WU, JL, JM, JN, JO, WV, JP, JQ, WW, JR, JS, JT, JU, JV, JW, JX, JY, JZ, WA, WB, WC, WD, WE, WF, WG, WH, WI, WJ, WK, WL, WM, WN, true_and, and_true, reduceCtorEq, ↓reduceIte, ↓bifT, ↓bifF, ↓gifT, ↓gifF, eq_self, WO, WP, WQ, Nat.reduceLT, Nat.reduceLeDiff, Nat.reduceAdd, Nat.reduceSub, Nat.reduceMul, Nat.reduceMod, WR, Nat.reduceBEq, Int.reduceBEq, Int.reduceBNe, BEq.rfl, List.getD_cons_zero, List.getD_cons_succ, or_false, false_or, or_self, or_true, true_or, decide_true]; done))); intro os' s hR; obtain ⟨rfl, rfl⟩ := hR)); simp only [WS, JA, JB, wI64, wU64, Int.reduceAdd, Int.reduceSub, Int.reduceMul, Int.reduceLE, Int.reduceLT, Int.reduceNeg, Int.reduceToNat, Int.cast_ofNat_Int, sx0, sx1, sx2, sx3, sx4, sx5, sx6, sx7, sy0, sy1, List.filterMap_cons, JC, JD, WT, JE, JF, JG, JH, JI, JJ, JK, WU, JL, JM, JN, JO, WV, JP, JQ, WW, JR, JS, JT, JU, JV, JW, JX, JY, JZ, WA, WB, WC, WD, WE, WF, WG, WH, WI, WJ, WK, WL, WM, WN, true_and, and_true, reduceCtorEq, ↓reduceIte, ↓bifT, ↓bifF, ↓gifT, ↓gifF, eq_self, WO, WP, WQ, Nat.reduceLT, Nat.reduceLeDiff, Nat.reduceAdd, Nat.reduceSub, Nat.reduceMul, Nat.reduceMod, WR, Nat.reduceBEq, Int.reduceBEq, Int.reduceBNe, BEq.rfl, hnt, hT, h, e1])
    | (refine SX.block ?_)
    | (refine and_mk ?_ ?_; (focus first | decide | omega | rfl | assumption | (simp only [List.length_append, List.length_cons, List.length_nil, B_size]; omega) | (simp; done)))
    | (refine And.intro ?_ ?_))
  all_goals (try refine Done.mk ?_)
  all_goals first | exact hbel | exact ⟨by simp [statusBytes], hbel⟩
theorem putStatus_detail (t : Nat) (s : List UInt8) (q : Nat) (hs : s.length < 4294967296) (hq : q < 18446744073709551616) (ht : t ≤ 5) (ht1 : 1 ≤ t) (hq1 : 0 < q) (d : List UInt8) (hd : d.length < 4294967296) (hd0 : d ≠ []) (h : statusB t s q false d = true) (w : World) :
    Calls Tryd.prog 19 #[.agg #[.int .i64 t, .string (B s), .int .u64 q, .bool false, .string (B d)]] w fun e w' => e = .returned (.tuple #[.string (B (statusBytes t s q false d)), .bool true]) ∧ Below w.heap.size w w' := by
  have e1 : IntKind.u64.wrap (t : Int) = (t : Int) := wU64 (by omega) (by omega)
  have n1 := numB_len 1 t (by decide) (by omega)
  have n2 := textB_len 2 s (by decide) hs
  have n3 := numB_len 3 q (by decide) hq
  have n4 := numB_len 4 1 (by decide) (by decide)
  have n5 := textB_len 5 d (by decide) hd
  have gd : (d == []) = false := by cases d <;> simp_all
  refine calls_pureK (args := [.agg #[.int .i64 t, .string (B s), .int .u64 q, .bool false, .string (B d)]]) w Tryd.func19 rfl Tryd.ntmps19 (by simp) ?_
  intro X K hX hK
  have hnt : X.nt = 35 := by rw [hX]
  have hwi : X.wi = w := by rw [hX]
  have hP : X.P = Tryd.prog := by rw [hX]
  have hown : X.own = [] := by rw [hX]
  have hbl : X.base.length = 0 := by rw [hX]; rfl
  clear hX
  have hT : aggOf X.P 30 = some true ∧ szOf X.P 30 = some 5 ∧ calleeOk X.P 64 = true ∧ zeroCells X.P 123 = some [(Value.pointer none), (Value.slice none 0 0)] ∧ fieldOff X.P 123 0 = some 0 ∧ calleeOk X.P 65 = true ∧ fieldOff X.P 30 0 = some 0 ∧ fieldOff X.P 26 0 = some 0 ∧ aggOf X.P 3 = some false ∧ szOf X.P 3 = some 1 ∧ X.P.underlying 3 = some (TypeDesc.int IntKind.i64) ∧ X.P.underlying 22 = some (TypeDesc.int IntKind.u64) ∧ isBytesT X.P 3 = false ∧ isStrT X.P 22 = false ∧ calleeOk X.P 66 = true ∧ fieldOff X.P 26 1 = some 1 ∧ aggOf X.P 9 = some false ∧ szOf X.P 9 = some 1 ∧ elemSz X.P 38 = some (9, 1) ∧ zeroCells X.P 9 = some [(Value.string { data := #[] })] ∧ calleeOk X.P 67 = true ∧ fieldOff X.P 30 1 = some 2 ∧ aggOf X.P 22 = some false ∧ szOf X.P 22 = some 1 ∧ fieldOff X.P 30 2 = some 3 ∧ aggOf X.P 4 = some false ∧ szOf X.P 4 = some 1 ∧ calleeOk X.P 68 = true ∧ fieldOff X.P 30 3 = some 4 ∧ calleeOk X.P 69 = true := by rw [hP]; exact ⟨Ty.ag30, Ty.sz30, Ty.co64, Ty.ze123, Ty.fo123_0, Ty.co65, Ty.fo30_0, Ty.fo26_0, Ty.ag3, Ty.sz3, Tryd.underlying3, Tryd.underlying22, Ty.ib3, Ty.is22, Ty.co66, Ty.fo26_1, Ty.ag9, Ty.sz9, Ty.el38, Ty.ze9, Ty.co67, Ty.fo30_1, Ty.ag22, Ty.sz22, Ty.fo30_2, Ty.ag4, Ty.sz4, Ty.co68, Ty.fo30_3, Ty.co69⟩
  repeat' (first
    | (refine SX.seqK ?_; intro N hN)
    | ((first | (refine SX.ops ?_)); simp only [WS, JA, JB, wI64, wU64, Int.reduceAdd, Int.reduceSub, Int.reduceMul, Int.reduceLE, Int.reduceLT, Int.reduceNeg, Int.reduceToNat, Int.cast_ofNat_Int, sx0, sx1, sx2, sx3, sx4, sx5, sx6, sx7, sy0, sy1, List.filterMap_cons, JC, JD, WT, JE, JF, JG, JH, JI, JJ, JK, WU, JL, JM, JN, JO, WV, JP, JQ, WW, JR, JS, JT, JU, JV, JW, JX, JY, JZ, WA, WB, WC, WD, WE, WF, WG, WH, WI, WJ, WK, WL, WM, WN, true_and, and_true, reduceCtorEq, ↓reduceIte, ↓bifT, ↓bifF, ↓gifT, ↓gifF, eq_self, WO, WP, WQ, Nat.reduceLT, Nat.reduceLeDiff, Nat.reduceAdd, Nat.reduceSub, Nat.reduceMul, Nat.reduceMod, WR, Nat.reduceBEq, Int.reduceBEq, Int.reduceBNe, BEq.rfl, hnt, hT, h, e1, gd])
    | ((first | refine SX.skip ?_ | refine SX.exit ?_ | refine SX.label ?_); try simp only [WS, JA, JB, wI64, wU64, Int.reduceAdd, Int.reduceSub, Int.reduceMul, Int.reduceLE, Int.reduceLT, Int.reduceNeg, Int.reduceToNat, Int.cast_ofNat_Int, sx0, sx1, sx2, sx3, sx4, sx5, sx6, sx7, sy0, sy1, List.filterMap_cons, JC, JD, WT, JE, JF, JG, JH, JI, JJ, JK, WU, JL, JM, JN, JO, WV, JP, JQ, WW, JR, JS, JT, JU, JV, JW, JX, JY, JZ, WA, WB, WC, WD, WE, WF, WG, WH, WI, WJ, WK, WL, WM, WN, true_and, and_true, reduceCtorEq, ↓reduceIte, ↓bifT, ↓bifF, ↓gifT, ↓gifF, eq_self, WO, WP, WQ, Nat.reduceLT, Nat.reduceLeDiff, Nat.reduceAdd, Nat.reduceSub, Nat.reduceMul, Nat.reduceMod, WR, Nat.reduceBEq, Int.reduceBEq, Int.reduceBNe, BEq.rfl])
    | (refine SX.cond rfl (fun hb => ?_) (fun hb => ?_) <;> ((first | cases hb | (simp only [decide_eq_true_eq, decide_eq_false_iff_not, beq_iff_eq, beq_eq_false_iff_ne, bne_iff_ne, Bool.and_eq_true, Bool.or_eq_true, Bool.not_eq_true', Bool.not_eq_false', Bool.and_eq_false_iff, Bool.or_eq_false_iff, Int.not_lt, Int.not_le] at hb) | skip) <;> (first | (exfalso; omega) | skip)))
    | (refine SX.ret ?_; try simp only [WS, JA, JB, wI64, wU64, Int.reduceAdd, Int.reduceSub, Int.reduceMul, Int.reduceLE, Int.reduceLT, Int.reduceNeg, Int.reduceToNat, Int.cast_ofNat_Int, sx0, sx1, sx2, sx3, sx4, sx5, sx6, sx7, sy0, sy1, List.filterMap_cons, JC, JD, WT, JE, JF, JG, JH, JI, JJ, JK, WU, JL, JM, JN, JO, WV, JP, JQ, WW, JR, JS, JT, JU, JV, JW, JX, JY, JZ, WA, WB, WC, WD, WE, WF, WG, WH, WI, WJ, WK, WL, WM, WN, true_and, and_true, reduceCtorEq, ↓reduceIte, ↓bifT, ↓bifF, ↓gifT, ↓gifF, eq_self, WO, WP, WQ, Nat.reduceLT, Nat.reduceLeDiff, Nat.reduceAdd, Nat.reduceSub, Nat.reduceMul, Nat.reduceMod, WR, Nat.reduceBEq, Int.reduceBEq, Int.reduceBNe, BEq.rfl])
    | (refine hN _ ?_; clear hN N)
    | (refine hK _ _ (Fin.res rfl hown ?_); simp only [WS, JA, JB, wI64, wU64, Int.reduceAdd, Int.reduceSub, Int.reduceMul, Int.reduceLE, Int.reduceLT, Int.reduceNeg, Int.reduceToNat, Int.cast_ofNat_Int, sx0, sx1, sx2, sx3, sx4, sx5, sx6, sx7, sy0, sy1, List.filterMap_cons, JC, JD, WT, JE, JF, JG, JH, JI, JJ, JK, WU, JL, JM, JN, JO, WV, JP, JQ, WW, JR, JS, JT, JU, JV, JW, JX, JY, JZ, WA, WB, WC, WD, WE, WF, WG, WH, WI, WJ, WK, WL, WM, WN, true_and, and_true, reduceCtorEq, ↓reduceIte, ↓bifT, ↓bifF, ↓gifT, ↓gifF, eq_self, WO, WP, WQ, Nat.reduceLT, Nat.reduceLeDiff, Nat.reduceAdd, Nat.reduceSub, Nat.reduceMul, Nat.reduceMod, WR, Nat.reduceBEq, Int.reduceBEq, Int.reduceBNe, BEq.rfl, f_a, f_b, f_n, f_c, f_B, f_v, f_g, f_0, f_1, f_2, hT, hwi, h, e1, gd]; intro w' hbel; refine Done.out ?_)
    | (clear hN N; first | (refine hN _ ?_; clear hN N) | (clear hN N; first | (refine hN _ ?_; clear hN N) | (clear hN N; first | (refine hN _ ?_; clear hN N) | (clear hN N; first | (refine hN _ ?_; clear hN N) | (clear hN N; first | (refine hN _ ?_; clear hN N) | (refine hN _ ?_; clear hN N))))))
    | (refine bif2.mk (fun hb => ?_) (fun hb => ?_) <;> (try simp only [hb, WS, JA, JB, wI64, wU64, Int.reduceAdd, Int.reduceSub, Int.reduceMul, Int.reduceLE, Int.reduceLT, Int.reduceNeg, Int.reduceToNat, Int.cast_ofNat_Int, sx0, sx1, sx2, sx3, sx4, sx5, sx6, sx7, sy0, sy1, List.filterMap_cons, JC, JD, WT, JE, JF, JG, JH, JI, JJ, JK, WU, JL, JM, JN, JO, WV, JP, JQ, WW, JR, JS, JT, JU, JV, JW, JX, JY, JZ, WA, WB, WC, WD, WE, WF, WG, WH, WI, WJ, WK, WL, WM, WN, true_and, and_true, reduceCtorEq, ↓reduceIte, ↓bifT, ↓bifF, ↓gifT, ↓gifF, eq_self, WO, WP, WQ, Nat.reduceLT, Nat.reduceLeDiff, Nat.reduceAdd, Nat.reduceSub, Nat.reduceMul, Nat.reduceMod, WR, Nat.reduceBEq, Int.reduceBEq, Int.reduceBNe, BEq.rfl, hnt, hT, h, e1, gd]) <;> ((first | cases hb | (simp only [decide_eq_true_eq, decide_eq_false_iff_not, beq_iff_eq, beq_eq_false_iff_ne, bne_iff_ne, Bool.and_eq_true, Bool.or_eq_true, Bool.not_eq_true', Bool.not_eq_false', Bool.and_eq_false_iff, Bool.or_eq_false_iff, Int.not_lt, Int.not_le] at hb) | skip) <;> (first | (exfalso; omega) | skip)))
    | ((first | (refine CallVC.pv hP (statusRight_any _ _ _ _ _ (by omega)) rfl ?_) | (refine CallQ.pv hP (statusRight_any _ _ _ _ _ (by omega)) rfl ?_) | (refine Ctr.use (writeByte_ctr 4) hP ?_ [1] ?_ rfl rfl ?_; (focus (intro p hp; cases hp)); (focus (refine LeR.of rfl trivial ?_ ?_ ?_ ?_ ?_ <;> first | decide | (simp only [WS, JA, JB, wI64, wU64, Int.reduceAdd, Int.reduceSub, Int.reduceMul, Int.reduceLE, Int.reduceLT, Int.reduceNeg, Int.reduceToNat, Int.cast_ofNat_Int, sx0, sx1, sx2, sx3, sx4, sx5, sx6, sx7, sy0, sy1, List.filterMap_cons, JC, JD, WT, JE, JF, JG, JH, JI, JJ, JK, WU, JL, JM, JN, JO, WV, JP, JQ, WW, JR, JS, JT, JU, JV, JW, JX, JY, JZ, WA, WB, WC, WD, WE, WF, WG, WH, WI, WJ, WK, WL, WM, WN, true_and, and_true, reduceCtorEq, ↓reduceIte, ↓bifT, ↓bifF, ↓gifT, ↓gifF, eq_self, WO, WP, WQ, Nat.reduceLT, Nat.reduceLeDiff, Nat.reduceAdd, Nat.reduceSub, Nat.reduceMul, Nat.reduceMod, WR, Nat.reduceBEq, Int.reduceBEq, Int.reduceBNe, BEq.rfl, List.getD_cons_zero, List.getD_cons_succ, or_false, false_or, or_self, or_true, true_or, decide_true]; done))); intro os' s hR; obtain ⟨rfl, rfl⟩ := hR) | (refine Ctr.use (wnumber_ctr [4] 1 t (by decide) (by decide) (by omega) (by omega) (by simp)) hP ?_ [1,4] ?_ rfl rfl ?_; (focus (intro p hp; cases hp)); (focus (refine LeR.of rfl trivial ?_ ?_ ?_ ?_ ?_ <;> first | decide | (simp only [WS, JA, JB, wI64, wU64, Int.reduceAdd, Int.reduceSub, Int.reduceMul, Int.reduceLE, Int.reduceLT, Int.reduceNeg, Int.reduceToNat, Int.cast_ofNat_Int, sx0, sx1, sx2, sx3, sx4, sx5, sx6, sx7, sy0, sy1, List.filterMap_cons, JC, JD, WT, JE, JF, JG, JH, JI, JJ, JK, WU, JL, JM, JN, JO, WV, JP, JQ, WW, JR, JS, JT, JU, JV, JW, JX, JY, JZ, WA, WB, WC, WD, WE, WF, WG, WH, WI, WJ, WK, WL, WM, WN, true_and, and_true, reduceCtorEq, ↓reduceIte, ↓bifT, ↓bifF, ↓gifT, ↓gifF, eq_self, WO, WP, WQ, Nat.reduceLT, Nat.reduceLeDiff, Nat.reduceAdd, Nat.reduceSub, Nat.reduceMul, Nat.reduceMod, WR, Nat.reduceBEq, Int.reduceBEq, Int.reduceBNe, BEq.rfl, List.getD_cons_zero, List.getD_cons_succ, or_false, false_or, or_self, or_true, true_or, decide_true]; done))); intro os' s hR; obtain ⟨rfl, rfl⟩ := hR) | (refine Ctr.use (wlist1_ctr (4 :: numB 1 t) s 2 (by decide) (by decide) hs (by simp; omega)) hP ?_ [1,5,6] ?_ rfl rfl ?_; (focus (intro p hp; cases hp)); (focus (refine LeR.of rfl trivial ?_ ?_ ?_ ?_ ?_ <;> first | decide | (simp only [WS, JA, JB, wI64, wU64, Int.reduceAdd, Int.reduceSub, Int.reduceMul, Int.reduceLE, Int.reduceLT, Int.reduceNeg, Int.reduceToNat, Int.cast_ofNat_Int, sx0, sx1, sx2, sx3, sx4, sx5, sx6, sx7, sy0, sy1, List.filterMap_cons, JC, JD, WT, JE, JF, JG, JH, JI, JJ, JK, WU, JL, JM, JN, JO, WV, JP, JQ, WW, JR, JS, JT, JU, JV, JW, JX, JY, JZ, WA, WB, WC, WD, WE, WF, WG, WH, WI, WJ, WK, WL, WM, WN, true_and, and_true, reduceCtorEq, ↓reduceIte, ↓bifT, ↓bifF, ↓gifT, ↓gifF, eq_self, WO, WP, WQ, Nat.reduceLT, Nat.reduceLeDiff, Nat.reduceAdd, Nat.reduceSub, Nat.reduceMul, Nat.reduceMod, WR, Nat.reduceBEq, Int.reduceBEq, Int.reduceBNe, BEq.rfl, List.getD_cons_zero, List.getD_cons_succ, or_false, false_or, or_self, or_true, true_or, decide_true]; done))); intro os' s hR; obtain ⟨rfl, rfl⟩ := hR) | (refine Ctr.use (wnumber_ctr (4 :: (numB 1 t ++ textB 2 s)) 3 q (by decide) (by decide) hq1 hq (by simp; omega)) hP ?_ [1,7] ?_ rfl rfl ?_; (focus (intro p hp; cases hp)); (focus (refine LeR.of rfl trivial ?_ ?_ ?_ ?_ ?_ <;> first | decide | (simp only [WS, JA, JB, wI64, wU64, Int.reduceAdd, Int.reduceSub, Int.reduceMul, Int.reduceLE, Int.reduceLT, Int.reduceNeg, Int.reduceToNat, Int.cast_ofNat_Int, sx0, sx1, sx2, sx3, sx4, sx5, sx6, sx7, sy0, sy1, List.filterMap_cons, JC, JD, WT, JE, JF, JG, JH, JI, JJ, JK, WU, JL, JM, JN, JO, WV, JP, JQ, WW, JR, JS, JT, JU, JV, JW, JX, JY, JZ, WA, WB, WC, WD, WE, WF, WG, WH, WI, WJ, WK, WL, WM, WN, true_and, and_true, reduceCtorEq, ↓reduceIte, ↓bifT, ↓bifF, ↓gifT, ↓gifF, eq_self, WO, WP, WQ, Nat.reduceLT, Nat.reduceLeDiff, Nat.reduceAdd, Nat.reduceSub, Nat.reduceMul, Nat.reduceMod, WR, Nat.reduceBEq, Int.reduceBEq, Int.reduceBNe, BEq.rfl, List.getD_cons_zero, List.getD_cons_succ, or_false, false_or, or_self, or_true, true_or, decide_true]; done))); intro os' s hR; obtain ⟨rfl, rfl⟩ := hR) | (refine Ctr.use (wflag_no (4 :: (numB 1 t ++ textB 2 s ++ numB 3 q)) 4) hP ?_ [1,8] ?_ rfl rfl ?_; (focus (intro p hp; cases hp)); (focus (refine LeR.of rfl trivial ?_ ?_ ?_ ?_ ?_ <;> first | decide | (simp only [WS, JA, JB, wI64, wU64, Int.reduceAdd, Int.reduceSub, Int.reduceMul, Int.reduceLE, Int.reduceLT, Int.reduceNeg, Int.reduceToNat, Int.cast_ofNat_Int, sx0, sx1, sx2, sx3, sx4, sx5, sx6, sx7, sy0, sy1, List.filterMap_cons, JC, JD, WT, JE, JF, JG, JH, JI, JJ, JK, WU, JL, JM, JN, JO, WV, JP, JQ, WW, JR, JS, JT, JU, JV, JW, JX, JY, JZ, WA, WB, WC, WD, WE, WF, WG, WH, WI, WJ, WK, WL, WM, WN, true_and, and_true, reduceCtorEq, ↓reduceIte, ↓bifT, ↓bifF, ↓gifT, ↓gifF, eq_self, WO, WP, WQ, Nat.reduceLT, Nat.reduceLeDiff, Nat.reduceAdd, Nat.reduceSub, Nat.reduceMul, Nat.reduceMod, WR, Nat.reduceBEq, Int.reduceBEq, Int.reduceBNe, BEq.rfl, List.getD_cons_zero, List.getD_cons_succ, or_false, false_or, or_self, or_true, true_or, decide_true]; done))); intro os' s hR; obtain ⟨rfl, rfl⟩ := hR) | (refine Ctr.use (wlist1_ctr (4 :: (numB 1 t ++ textB 2 s ++ numB 3 q)) d 5 (by decide) (by decide) hd (by simp; omega)) hP ?_ [1,8,9] ?_ rfl rfl ?_; (focus (intro p hp; cases hp)); (focus (refine LeR.of rfl trivial ?_ ?_ ?_ ?_ ?_ <;> first | decide | (simp only [WS, JA, JB, wI64, wU64, Int.reduceAdd, Int.reduceSub, Int.reduceMul, Int.reduceLE, Int.reduceLT, Int.reduceNeg, Int.reduceToNat, Int.cast_ofNat_Int, sx0, sx1, sx2, sx3, sx4, sx5, sx6, sx7, sy0, sy1, List.filterMap_cons, JC, JD, WT, JE, JF, JG, JH, JI, JJ, JK, WU, JL, JM, JN, JO, WV, JP, JQ, WW, JR, JS, JT, JU, JV, JW, JX, JY, JZ, WA, WB, WC, WD, WE, WF, WG, WH, WI, WJ, WK, WL, WM, WN, true_and, and_true, reduceCtorEq, ↓reduceIte, ↓bifT, ↓bifF, ↓gifT, ↓gifF, eq_self, WO, WP, WQ, Nat.reduceLT, Nat.reduceLeDiff, Nat.reduceAdd, Nat.reduceSub, Nat.reduceMul, Nat.reduceMod, WR, Nat.reduceBEq, Int.reduceBEq, Int.reduceBNe, BEq.rfl, List.getD_cons_zero, List.getD_cons_succ, or_false, false_or, or_self, or_true, true_or, decide_true]; done))); intro os' s hR; obtain ⟨rfl, rfl⟩ := hR) | (refine Ctr.use (string_ctr (4 :: (numB 1 t ++ textB 2 s ++ numB 3 q ++ textB 5 d)) (by simp) (by simp; omega)) hP ?_ [1,10] ?_ rfl rfl ?_; (focus (intro p hp; cases hp)); (focus (refine LeR.of rfl trivial ?_ ?_ ?_ ?_ ?_ <;> first | decide | (simp only [WS, JA, JB, wI64, wU64, Int.reduceAdd, Int.reduceSub, Int.reduceMul, Int.reduceLE, Int.reduceLT, Int.reduceNeg, Int.reduceToNat, Int.cast_ofNat_Int, sx0, sx1, sx2, sx3, sx4, sx5, sx6, sx7, sy0, sy1, List.filterMap_cons, JC, JD, WT, JE, JF, JG, JH, JI, JJ, JK, WU, JL, JM, JN, JO, WV, JP, JQ, WW, JR, JS, JT, JU, JV, JW, JX, JY, JZ, WA, WB, WC, WD, WE, WF, WG, WH, WI, WJ, WK, WL, WM, WN, true_and, and_true, reduceCtorEq, ↓reduceIte, ↓bifT, ↓bifF, ↓gifT, ↓gifF, eq_self, WO, WP, WQ, Nat.reduceLT, Nat.reduceLeDiff, Nat.reduceAdd, Nat.reduceSub, Nat.reduceMul, Nat.reduceMod, WR, Nat.reduceBEq, Int.reduceBEq, Int.reduceBNe, BEq.rfl, List.getD_cons_zero, List.getD_cons_succ, or_false, false_or, or_self, or_true, true_or, decide_true]; done))); intro os' s hR; obtain ⟨rfl, rfl⟩ := hR)); simp only [WS, JA, JB, wI64, wU64, Int.reduceAdd, Int.reduceSub, Int.reduceMul, Int.reduceLE, Int.reduceLT, Int.reduceNeg, Int.reduceToNat, Int.cast_ofNat_Int, sx0, sx1, sx2, sx3, sx4, sx5, sx6, sx7, sy0, sy1, List.filterMap_cons, JC, JD, WT, JE, JF, JG, JH, JI, JJ, JK, WU, JL, JM, JN, JO, WV, JP, JQ, WW, JR, JS, JT, JU, JV, JW, JX, JY, JZ, WA, WB, WC, WD, WE, WF, WG, WH, WI, WJ, WK, WL, WM, WN, true_and, and_true, reduceCtorEq, ↓reduceIte, ↓bifT, ↓bifF, ↓gifT, ↓gifF, eq_self, WO, WP, WQ, Nat.reduceLT, Nat.reduceLeDiff, Nat.reduceAdd, Nat.reduceSub, Nat.reduceMul, Nat.reduceMod, WR, Nat.reduceBEq, Int.reduceBEq, Int.reduceBNe, BEq.rfl, hnt, hT, h, e1, gd])
    | (refine SX.block ?_)
    | (refine and_mk ?_ ?_; (focus first | decide | omega | rfl | assumption | (simp only [List.length_append, List.length_cons, List.length_nil, B_size]; omega) | (simp; done)))
    | (refine And.intro ?_ ?_))
  all_goals (try refine Done.mk ?_)
  all_goals first | exact hbel | exact ⟨by simp [statusBytes, hd0], hbel⟩
end Go.Proofs.YtbdacbcpniegiaaDoor
namespace Go.Proofs.YtbdacbcpniegiaaDoor
open Go Go.RowKit Go.Proofs Go.Sx
set_option maxHeartbeats 4000000
set_option maxRecDepth 100000
set_option linter.unusedSimpArgs false
set_option linter.unusedVariables false
theorem nameB_len {s : List UInt8} (h : nameB s = true) : s.length ≤ 64 := by
  simp only [nameB, Bool.and_eq_true, decide_eq_true_eq] at h
  omega
theorem keyB_spec {t : Int} {s : List UInt8} (h : keyB t s = true) : 1 ≤ t ∧ t ≤ 5 ∧ s.length ≤ 64 := by
  simp only [keyB, Bool.and_eq_true, decide_eq_true_eq, Bool.or_eq_true, beq_iff_eq] at h
  refine ⟨h.1.1, h.1.2, ?_⟩
  rcases h.2 with h | h
  · subst h; decide
  · exact nameB_len h
theorem statusB_spec {t : Int} {s : List UInt8} {q : Int} {ok : Bool} {d : List UInt8} (h : statusB t s q ok d = true) : 1 ≤ t ∧ t ≤ 5 ∧ s.length ≤ 64 ∧ 0 < q ∧ d.length ≤ 256 ∧ (ok = true → d = []) := by
  simp only [statusB, Bool.and_eq_true, decide_eq_true_eq, Bool.or_eq_true, Bool.not_eq_true', beq_iff_eq] at h
  obtain ⟨⟨⟨⟨h1, _⟩, h3⟩, h4⟩, h5⟩ := h
  obtain ⟨a, b, c⟩ := keyB_spec h1
  refine ⟨a, b, c, h3, by omega, fun e => ?_⟩
  rcases h5 with h5 | h5
  · rw [e] at h5; cases h5
  · exact h5
theorem putStatus_any (t : Int) (s : List UInt8) (q : Nat) (ok : Bool) (d : List UInt8) (hs : s.length ≤ 4611686018427387904) (hq : q < 18446744073709551616) (w : World) :
    Calls Tryd.prog 19 #[.agg #[.int .i64 t, .string (B s), .int .u64 q, .bool ok, .string (B d)]] w fun e w' => e = .returned (.tuple #[.string (B (if statusB t s q ok d then statusBytes t.toNat s q ok d else [])), .bool (statusB t s q ok d)]) ∧ Below w.heap.size w w' := by
  cases h : statusB t s q ok d with
  | false => simpa using putStatus_no t s q ok d hs h w
  | true =>
    obtain ⟨h1, h2, h3, h4, h5, h6⟩ := statusB_spec h
    obtain ⟨n, rfl⟩ : ∃ n : Nat, t = n := ⟨t.toNat, by omega⟩
    simp only [if_true, Int.toNat_natCast]
    cases ok with
    | true =>
      have := h6 rfl; subst this
      exact putStatus_ok n s q (by omega) hq (by omega) (by omega) (by omega) h w
    | false =>
      by_cases hd : d = []
      · subst hd; exact putStatus_plain n s q (by omega) hq (by omega) (by omega) (by omega) h w
      · exact putStatus_detail n s q (by omega) hq (by omega) (by omega) (by omega) d (by omega) hd h w
end Go.Proofs.YtbdacbcpniegiaaDoor
