/- Own work: a part of the symbolic executor and of the walks of the functions that the claim reaches. -/
import Derived.Test.YtbdacbcpniegiaaDoorBase2
import Derived.RangeFuncNested
import Derived.RangeFuncBound
import Derived.RangeFuncCalls
import Derived.RangeFuncLeaves
import Derived.RangeFuncBox
import Derived.Shelf.Abstract
import Derived.WalkKit
import Derived.OwnWalkIn
import Derived.TacticsInMore
import Derived.LoopNIn
import Derived.LoopIn
import Derived.Maps.AppendAt
import Derived.Shelf.Pu.Clone
import Derived.Shelf.Strings.SlTrimAscii
namespace Go.Proofs.YtbdacbcpniegiaaDoor
open Go Go.RowKit Go.Proofs Go.Sx
set_option maxHeartbeats 1000000
set_option linter.unusedSimpArgs false
set_option linter.unusedVariables false
set_option maxRecDepth 10000 in
theorem andNot128 {x : Int} (h0 : 0 ≤ x) (h1 : x < 256) : bits .andNot .u8 x 128 = x % 128 := by
  have := (by decide : ∀ x : Fin 256, bits .andNot .u8 (x.val : Int) 128 = (x.val : Int) % 128) ⟨x.toNat, by omega⟩
  simp only [Int.toNat_of_nonneg h0] at this
  exact this
theorem wi64 {x : Int} (h0 : -9223372036854775808 ≤ x) (h1 : x < 9223372036854775808) : IntKind.i64.wrap x = x := by
  rw [IntKind.wrap_i64, Int.emod_eq_of_lt (by omega) (by omega)]; omega
theorem wu64 {x : Int} (h0 : 0 ≤ x) (h1 : x < 18446744073709551616) : IntKind.u64.wrap x = x := by
  rw [IntKind.wrap_u64, Int.emod_eq_of_lt h0 h1]
theorem orShift (acc k x : Nat) (hk : k ≤ 9) (hacc : acc < 2 ^ (7 * k)) (hx : x * 2 ^ (7 * k) < 18446744073709551616) (hx8 : x < 128) :
    bits .or .u64 acc (IntKind.u64.wrap (IntKind.u64.wrap x * 2 ^ min (IntKind.i64.wrap (7 * (k : Int))).toNat IntKind.u64.bits)) = ((acc + x * 2 ^ (7 * k) : Nat) : Int) := by
  have h1 : (IntKind.i64.wrap (7 * (k : Int))).toNat = 7 * k := by rw [wi64 (by omega) (by omega)]; omega
  have h2 : min (7 * k) IntKind.u64.bits = 7 * k := by have : IntKind.u64.bits = 64 := rfl; omega
  have h3 : IntKind.u64.wrap (x : Int) = x := by rw [IntKind.wrap_u64]; omega
  have h4 : ((x : Int) * 2 ^ (7 * k)) = ((x * 2 ^ (7 * k) : Nat) : Int) := by simp
  have h5 : IntKind.u64.wrap ((x * 2 ^ (7 * k) : Nat) : Int) = ((x * 2 ^ (7 * k) : Nat) : Int) := by rw [IntKind.wrap_u64]; omega
  have hp : 2 ^ (7 * k) ≤ 2 ^ 63 := Nat.pow_le_pow_right (by decide) (by omega)
  rw [h1, h2, h3, h4, h5, bits_or_u64_nat _ _ (by omega) hx]
  congr 1
  rw [Nat.mul_comm x, Nat.or_comm, ← Nat.two_pow_add_eq_or_of_lt hacc, Nat.add_comm]
def rvR (s : List UInt8) : Nat × Nat × Bool := match NW.readVar s with | some (n, z) => (n, z, true) | none => (0, 0, false)
theorem rvR_none {s : List UInt8} (h : NW.readVar s = none) : rvR s = (0, 0, false) := by simp [rvR, h]
theorem rvR_some {s : List UInt8} {r : Nat × Nat} (h : NW.readVar s = some r) : rvR s = (r.1, r.2, true) := by simp [rvR, h]
theorem readVarint_any (s : List UInt8) (hs : s.length ≤ 4611686018427387904) (w : World) :
    Calls Tryd.prog 172 #[.string (B s)] w fun e w' => e = .returned (.tuple #[.int .u64 (rvR s).1, .int .i64 (rvR s).2.1, .bool (rvR s).2.2]) ∧ Below w.heap.size w w' := by
  refine calls_pureK (args := [.string (B s)]) w Tryd.func172 rfl Tryd.ntmps172 (by simp) ?_
  intro X K hX hK
  have hnt : X.nt = 36 := by rw [hX]
  have hwi : X.wi = w := by rw [hX]
  have hP : X.P = Tryd.prog := by rw [hX]
  have hown : X.own = [] := by rw [hX]
  have hbl : X.base.length = 0 := by rw [hX]; rfl
  clear hX
  have hT : X.P.underlying 9 = some TypeDesc.string ∧ isStrT X.P 9 = true ∧ X.P.underlying 5 = some (TypeDesc.int IntKind.u8) ∧ X.P.underlying 22 = some (TypeDesc.int IntKind.u64) ∧ isBytesT X.P 5 = false ∧ isStrT X.P 22 = false := by rw [hP]; exact ⟨Tryd.underlying9, Ty.is9, Tryd.underlying5, Tryd.underlying22, Ty.ib5, Ty.is22⟩
  repeat (refine SX.seqK ?_; intro N hN)
  refine SX.ops ?_
  simp only [GA, ↓GB, List.filterMap_cons, eq_self, BEq.rfl, simprocAttr, hnt, hT]
  refine hN _ ?_
  clear hN N
  repeat (refine SX.seqK ?_; intro N hN)
  refine SX.ops ?_
  simp only [GA, ↓GB, List.filterMap_cons, eq_self, BEq.rfl, simprocAttr, hnt, hT]
  have hmin : (if (s.length : Int) < 10 then (s.length : Int) else 10) = ((min 10 s.length : Nat) : Int) := by split <;> omega
  rw [hmin]
  refine hN _ ?_
  clear hN N
  refine SX.block (SX.loop (ι := { p : Nat × Nat // p.1 ≤ min 10 s.length ∧ p.2 < 2 ^ (7 * p.1) ∧ NW.readVar s = (NW.readAt p.1 (s.drop p.1)).map (fun r => (p.2 + r.1, r.2)) })
    (fun i => ⟨[(0, vv (.string (B s))), (2, vv (.int .u64 i.1.2)), (9, vv (.int .i64 ((min 10 s.length : Nat) : Int))), (10, vv (.int .i64 i.1.1))], []⟩) (fun i => 10 - i.1.1)
    ⟨(0, 0), by omega, by decide, by cases h : NW.readAt 0 s <;> simp [NW.readVar, h]⟩ ⟨[], (LeR.of (by rw [hbl]; decide) (by simp only [GA, ↓GB, List.filterMap_cons, eq_self, BEq.rfl, simprocAttr, List.getD_cons_zero, List.getD_cons_succ, or_false, false_or, or_self, or_true, true_or, decide_true]; try (exact ⟨rfl, rfl⟩)) (by simp only [GA, ↓GB, List.filterMap_cons, eq_self, BEq.rfl, simprocAttr, List.getD_cons_zero, List.getD_cons_succ, or_false, false_or, or_self, or_true, true_or, decide_true]; try (exact ⟨rfl, rfl⟩)) (by decide) (by simp only [GA, ↓GB, List.filterMap_cons, eq_self, BEq.rfl, simprocAttr, List.getD_cons_zero, List.getD_cons_succ, or_false, false_or, or_self, or_true, true_or, decide_true]) (by simp only [GA, ↓GB, List.filterMap_cons, eq_self, BEq.rfl, simprocAttr, List.getD_cons_zero, List.getD_cons_succ, or_false, false_or, or_self, or_true, true_or, decide_true]) (by simp only [GA, ↓GB, List.filterMap_cons, eq_self, BEq.rfl, simprocAttr, List.getD_cons_zero, List.getD_cons_succ, or_false, false_or, or_self, or_true, true_or, decide_true]))⟩ ?_)
  rintro ⟨⟨k, acc⟩, hk, hacc, hrv⟩
  simp only at hk hacc hrv ⊢
  repeat (refine SX.seqK ?_; intro N hN)
  refine SX.ops ?_
  simp only [GA, ↓GB, List.filterMap_cons, eq_self, BEq.rfl, simprocAttr, hnt, hT]
  refine hN _ ?_
  clear hN N
  repeat (refine SX.seqK ?_; intro N hN)
  refine SX.cond (b := decide ((k : Int) < ((min 10 s.length : Nat) : Int))) rfl (fun hb => ?_) (fun hb => ?_)
  · refine SX.skip (hN _ ?_); clear hN N
    have hlt : k < min 10 s.length := by have := of_decide_eq_true hb; omega
    have hdrop : s.drop k = s[k]'(by omega) :: s.drop (k + 1) := List.drop_eq_getElem_cons (by omega)
    have hget : s.getD (k) 0 = s[k]'(by omega) := by simp [List.getD_eq_getElem?_getD, show k < s.length by omega]
    rw [hdrop] at hrv
    have hb8 := (s[k]'(by omega)).toNat_lt
    repeat (refine SX.seqK ?_; intro N hN)
    refine SX.block ?_
    repeat (refine SX.seqK ?_; intro N hN)
    refine SX.ops ?_
    simp only [GA, ↓GB, List.filterMap_cons, eq_self, BEq.rfl, simprocAttr, hnt, hT]
    refine hN _ ?_
    clear hN N
    repeat (refine SX.seqK ?_; intro N hN)
    refine SX.ops ?_
    simp only [GA, ↓GB, List.filterMap_cons, eq_self, BEq.rfl, simprocAttr, hnt, hT]
    refine ⟨by omega, by omega, ?_⟩
    rw [hget]
    generalize s[k]'(by omega) = b at *
    refine hN _ ?_
    clear hN N
    repeat (refine SX.seqK ?_; intro N hN)
    refine SX.ops ?_
    simp only [GA, ↓GB, List.filterMap_cons, eq_self, BEq.rfl, simprocAttr, hnt, hT]
    refine SX.merge (d := ⟨[(21, vv (.bool (decide (k = 9) && decide (1 < b.toNat)))), (0, vv (.string (B s))), (2, vv (.int .u64 acc)), (5, vv (.int .i64 k)), (6, vv (.int .u8 b.toNat)), (9, vv (.int .i64 ((min 10 s.length : Nat) : Int))), (10, vv (.int .i64 k))], []⟩) hN [] []
      (fun h9 => (LeR.of (by rw [hbl]; decide) (by simp only [GA, ↓GB, List.filterMap_cons, eq_self, BEq.rfl, simprocAttr, List.getD_cons_zero, List.getD_cons_succ, or_false, false_or, or_self, or_true, true_or, decide_true]; try ((have h9' : k = 9 := by have := eq_of_beq h9; omega); simp [h9']; omega)) (by simp only [GA, ↓GB, List.filterMap_cons, eq_self, BEq.rfl, simprocAttr, List.getD_cons_zero, List.getD_cons_succ, or_false, false_or, or_self, or_true, true_or, decide_true]; try ((have h9' : k = 9 := by have := eq_of_beq h9; omega); simp [h9']; omega)) (by decide) (by simp only [GA, ↓GB, List.filterMap_cons, eq_self, BEq.rfl, simprocAttr, List.getD_cons_zero, List.getD_cons_succ, or_false, false_or, or_self, or_true, true_or, decide_true]) (by simp only [GA, ↓GB, List.filterMap_cons, eq_self, BEq.rfl, simprocAttr, List.getD_cons_zero, List.getD_cons_succ, or_false, false_or, or_self, or_true, true_or, decide_true]) (by simp only [GA, ↓GB, List.filterMap_cons, eq_self, BEq.rfl, simprocAttr, List.getD_cons_zero, List.getD_cons_succ, or_false, false_or, or_self, or_true, true_or, decide_true]))) (fun h9 => (LeR.of (by rw [hbl]; decide) (by simp only [GA, ↓GB, List.filterMap_cons, eq_self, BEq.rfl, simprocAttr, List.getD_cons_zero, List.getD_cons_succ, or_false, false_or, or_self, or_true, true_or, decide_true]; try (simp [show k ≠ 9 by intro e; subst e; simp at h9])) (by simp only [GA, ↓GB, List.filterMap_cons, eq_self, BEq.rfl, simprocAttr, List.getD_cons_zero, List.getD_cons_succ, or_false, false_or, or_self, or_true, true_or, decide_true]; try (simp [show k ≠ 9 by intro e; subst e; simp at h9])) (by decide) (by simp only [GA, ↓GB, List.filterMap_cons, eq_self, BEq.rfl, simprocAttr, List.getD_cons_zero, List.getD_cons_succ, or_false, false_or, or_self, or_true, true_or, decide_true]) (by simp only [GA, ↓GB, List.filterMap_cons, eq_self, BEq.rfl, simprocAttr, List.getD_cons_zero, List.getD_cons_succ, or_false, false_or, or_self, or_true, true_or, decide_true]) (by simp only [GA, ↓GB, List.filterMap_cons, eq_self, BEq.rfl, simprocAttr, List.getD_cons_zero, List.getD_cons_succ, or_false, false_or, or_self, or_true, true_or, decide_true]))) ?_
    clear hN N
    repeat (refine SX.seqK ?_; intro N hN)
    refine SX.cond (b := (decide (k = 9) && decide (1 < b.toNat))) rfl (fun hb => ?_) (fun hb => ?_)
    · refine SX.exit ?_
      simp only [GA, ↓GB, List.filterMap_cons, eq_self, BEq.rfl, simprocAttr, hnt]
      have hnone : NW.readVar s = none := by
        simp only [Bool.and_eq_true, decide_eq_true_eq] at hb
        obtain ⟨rfl, hb⟩ := hb
        rw [hrv, NW.readAt, if_neg (by omega), if_pos ⟨rfl, by omega⟩]; rfl
      clear hN N; clear hN N
      refine hN _ ?_
      clear hN N
      repeat (refine SX.seqK ?_; intro N hN)
      refine SX.ops ?_
      simp only [GA, ↓GB, List.filterMap_cons, eq_self, BEq.rfl, simprocAttr, hnt, hT]
      refine hN _ ?_
      clear hN N
      refine SX.ret (hK _ _ (Fin.three rfl rfl rfl rfl hown ?_))
      rw [hwi]; intro w' hb; exact ⟨by rw [rvR_none hnone]; rfl, hb⟩
    · refine SX.skip (hN _ ?_); clear hN N
      have hr : NW.readAt k (b :: s.drop (k + 1)) = if b.toNat < 128 then some (b.toNat * 2 ^ (7 * k), k + 1) else (NW.readAt (k + 1) (s.drop (k + 1))).map fun r => (b.toNat % 128 * 2 ^ (7 * k) + r.1, r.2) := by
        simp only [Bool.and_eq_false_iff, decide_eq_false_iff_not] at hb
        rw [NW.readAt, if_neg (by omega), if_neg (by omega)]
      rw [hr] at hrv
      repeat (refine SX.seqK ?_; intro N hN)
      refine SX.ops ?_
      simp only [GA, ↓GB, List.filterMap_cons, eq_self, BEq.rfl, simprocAttr, hnt, hT]
      have hx8 : b.toNat % 128 < 128 := Nat.mod_lt _ (by decide)
      have hx : b.toNat % 128 * 2 ^ (7 * k) < 18446744073709551616 := by
        by_cases e9 : k = 9
        · subst e9
          have : b.toNat ≤ 1 := by simp at hb; exact hb
          omega
        · have h2 : 2 ^ (7 * k) ≤ 2 ^ 56 := Nat.pow_le_pow_right (by decide) (by omega)
          have : b.toNat % 128 * 2 ^ (7 * k) ≤ 127 * 2 ^ 56 := Nat.mul_le_mul (by omega) h2
          omega
      have hv : bits .or .u64 acc (IntKind.u64.wrap (IntKind.u64.wrap (bits .andNot .u8 b.toNat 128) * 2 ^ min (IntKind.i64.wrap (7 * (k : Int))).toNat IntKind.u64.bits)) = ((acc + b.toNat % 128 * 2 ^ (7 * k) : Nat) : Int) := by
        rw [andNot128 (by omega) (by omega)]
        have := orShift acc k (b.toNat % 128) (by omega) hacc hx hx8
        simpa using this
      rw [hv]
      refine ⟨by rw [wi64 (by omega) (by omega)]; omega, ?_⟩
      refine hN _ ?_
      clear hN N
      repeat (refine SX.seqK ?_; intro N hN)
      refine SX.ops ?_
      simp only [GA, ↓GB, List.filterMap_cons, eq_self, BEq.rfl, simprocAttr, hnt, hT]
      refine hN _ ?_
      clear hN N
      repeat (refine SX.seqK ?_; intro N hN)
      refine SX.cond (b := decide ((b.toNat : Int) < 128)) rfl (fun hb => ?_) (fun hb => ?_)
      · have hb2 : b.toNat < 128 := by have := of_decide_eq_true ‹decide ((b.toNat : Int) < 128) = true›; omega
        rw [if_pos hb2] at hrv
        simp only [Option.map_some] at hrv
        have e1 : IntKind.i64.wrap ((k : Int) + 1) = ((k + 1 : Nat) : Int) := by rw [wi64 (by omega) (by omega)]; rfl
        repeat (refine SX.seqK ?_; intro N hN)
        refine SX.ops ?_
        simp only [GA, ↓GB, List.filterMap_cons, eq_self, BEq.rfl, simprocAttr, hnt, hT]
        rw [e1]
        refine hN _ ?_
        clear hN N
        refine SX.ret ?_
        simp only [GA, ↓GB, List.filterMap_cons, eq_self, BEq.rfl, simprocAttr, hnt]
        refine hK _ _ (Fin.three rfl rfl rfl rfl hown ?_)
        rw [hwi]; intro w' hb; exact ⟨by rw [rvR_some hrv]; simp [Nat.mod_eq_of_lt hb2], hb⟩
      · have hb2 : ¬ b.toNat < 128 := by have := of_decide_eq_false ‹decide ((b.toNat : Int) < 128) = false›; omega
        rw [if_neg hb2] at hrv
        refine SX.skip ?_
        simp only [GA, ↓GB, List.filterMap_cons, eq_self, BEq.rfl, simprocAttr, hnt]
        refine hN _ ?_
        clear hN N
        refine SX.ops ?_
        simp only [GA, ↓GB, List.filterMap_cons, eq_self, BEq.rfl, simprocAttr, hnt, hT]
        have e1 : IntKind.i64.wrap ((k : Int) + 1) = ((k + 1 : Nat) : Int) := by rw [wi64 (by omega) (by omega)]; rfl
        rw [e1]
        refine ⟨⟨(k + 1, acc + b.toNat % 128 * 2 ^ (7 * k)), by omega, ?_, ?_⟩, [], (LeR.of (by rw [hbl]; decide) (by simp only [GA, ↓GB, List.filterMap_cons, eq_self, BEq.rfl, simprocAttr, List.getD_cons_zero, List.getD_cons_succ, or_false, false_or, or_self, or_true, true_or, decide_true]; try (exact ⟨rfl, rfl⟩)) (by simp only [GA, ↓GB, List.filterMap_cons, eq_self, BEq.rfl, simprocAttr, List.getD_cons_zero, List.getD_cons_succ, or_false, false_or, or_self, or_true, true_or, decide_true]; try (exact ⟨rfl, rfl⟩)) (by decide) (by simp only [GA, ↓GB, List.filterMap_cons, eq_self, BEq.rfl, simprocAttr, List.getD_cons_zero, List.getD_cons_succ, or_false, false_or, or_self, or_true, true_or, decide_true]) (by simp only [GA, ↓GB, List.filterMap_cons, eq_self, BEq.rfl, simprocAttr, List.getD_cons_zero, List.getD_cons_succ, or_false, false_or, or_self, or_true, true_or, decide_true]) (by simp only [GA, ↓GB, List.filterMap_cons, eq_self, BEq.rfl, simprocAttr, List.getD_cons_zero, List.getD_cons_succ, or_false, false_or, or_self, or_true, true_or, decide_true])), ?_⟩
        · show _ < 2 ^ (7 * (k + 1))
          rw [show 7 * (k + 1) = 7 * k + 7 by omega, Nat.pow_add]
          have : b.toNat % 128 * 2 ^ (7 * k) ≤ 127 * 2 ^ (7 * k) := Nat.mul_le_mul_right _ (by omega)
          show _ + _ < _
          omega
        · rw [hrv]
          cases NW.readAt (k + 1) (s.drop (k + 1)) <;> simp
          omega
        · show 10 - (k + 1) < 10 - k
          omega
  · refine SX.exit ?_
    simp only [GA, ↓GB, List.filterMap_cons, eq_self, BEq.rfl, simprocAttr, hnt]
    clear hN N
    refine hN _ ?_
    clear hN N
    repeat (refine SX.seqK ?_; intro N hN)
    refine SX.ops ?_
    simp only [GA, ↓GB, List.filterMap_cons, eq_self, BEq.rfl, simprocAttr, hnt, hT]
    refine hN _ ?_
    clear hN N
    have hk' : k = min 10 s.length := by have := of_decide_eq_false hb; omega
    have hnone : NW.readVar s = none := by
      rw [hrv]
      by_cases h10 : 10 ≤ s.length
      · have : k = 10 := by omega
        subst this
        cases h : s.drop 10 <;> simp [NW.readAt]
      · rw [List.drop_eq_nil_of_le (by omega)]; simp [NW.readAt]
    refine SX.ret (hK _ _ (Fin.three rfl rfl rfl rfl hown ?_))
    rw [hwi]; intro w' hb; exact ⟨by rw [rvR_none hnone]; rfl, hb⟩
end Go.Proofs.YtbdacbcpniegiaaDoor
namespace Go.Proofs.YtbdacbcpniegiaaDoor
open Go Go.RowKit Go.Proofs Go.Sx
set_option maxHeartbeats 4000000
set_option linter.unusedSimpArgs false
set_option linter.unusedVariables false
structure Wire (w : World) (es ew : Value) : Prop where
  short : w.cell? ⟨2, 0, none⟩ = some es
  wrong : w.cell? ⟨3, 0, none⟩ = some ew
  s1 : es.oneCell' = true
  w1 : ew.oneCell' = true
def takeS (s : List UInt8) (es ew : Value) (v : Value) : Prop := ∃ (num kind : Int) (n : Nat) (fs r : List UInt8) (ev : Value),
  v = .tuple #[.agg #[.int .i64 num, .int .i64 kind, .int .u64 n, .string (B fs)], .string (B r), ev] ∧ r.length ≤ s.length ∧
  (match NW.takeF s with | some (f, r') => num = f.num ∧ kind = f.kind ∧ n = f.n ∧ fs = f.s ∧ r = r' ∧ ev = .nilIface | none => ev = es ∨ ev = ew)
theorem take_any (s : List UInt8) (hs : s.length ≤ 1152921504606846976) (w : World) (es ew : Value) (hw : Wire w es ew) :
    Calls Tryd.prog 164 #[.string (B s)] w fun e w' => ∃ v, e = .returned v ∧ takeS s es ew v ∧ Below w.heap.size w w' := by
  have hw1 := hw.short
  have hw2 := hw.wrong
  have h1 := hw.s1
  have h2 := hw.w1
  cases h : NW.readVar s with
  | none =>
    have hT0 : NW.takeF s = none := by simp [NW.takeF, h]
    refine calls_pureK (args := [.string (B s)]) w Tryd.func164 rfl Tryd.ntmps164 (by simp) ?_
    intro X K hX hK
    have hnt : X.nt = 107 := by rw [hX]
    have hwi : X.wi = w := by rw [hX]
    have hP : X.P = Tryd.prog := by rw [hX]
    have hown : X.own = [] := by rw [hX]
    have hbl : X.base.length = 0 := by rw [hX]; rfl
    clear hX
    have hT : zeroCells X.P 143 = some [(Value.int IntKind.i64 0), (Value.int IntKind.i64 0), (Value.int IntKind.u64 0), (Value.string { data := #[] })] ∧ calleeOk X.P 172 = true ∧ aggOf X.P 143 = some true ∧ szOf X.P 143 = some 4 ∧ aggOf X.P 125 = some false ∧ szOf X.P 125 = some 1 ∧ X.P.underlying 22 = some (TypeDesc.int IntKind.u64) ∧ X.P.underlying 3 = some (TypeDesc.int IntKind.i64) ∧ isBytesT X.P 22 = false ∧ isStrT X.P 3 = false ∧ fieldOff X.P 143 0 = some 0 ∧ szOf X.P 3 = some 1 ∧ fieldOff X.P 143 1 = some 1 ∧ isStrT X.P 9 = true ∧ calleeOk X.P 127 = true ∧ aggOf X.P 3 = some false ∧ mapInf X.P 174 = some ((TypeDesc.int IntKind.i64), (Value.int IntKind.i64 0)) ∧ isBytesT X.P 3 = false ∧ isStrT X.P 22 = false ∧ fieldOff X.P 143 2 = some 2 ∧ szOf X.P 22 = some 1 ∧ X.P.underlying 9 = some TypeDesc.string ∧ fieldOff X.P 143 3 = some 3 ∧ szOf X.P 9 = some 1 := by rw [hP]; exact ⟨Ty.ze143, Ty.co172, Ty.ag143, Ty.sz143, Ty.ag125, Ty.sz125, Tryd.underlying22, Tryd.underlying3, Ty.ib22, Ty.is3, Ty.fo143_0, Ty.sz3, Ty.fo143_1, Ty.is9, Ty.co127, Ty.ag3, Ty.mi174, Ty.ib3, Ty.is22, Ty.fo143_2, Ty.sz22, Tryd.underlying9, Ty.fo143_3, Ty.sz9⟩
    rw [← hwi] at hw1 hw2
    repeat (refine SX.seqK ?_; intro N hN)
    refine SX.ops ?_
    simp only [GA, ↓GB, List.filterMap_cons, eq_self, BEq.rfl, simprocAttr, hnt, hT]
    refine hN _ ?_
    clear hN N
    repeat (refine SX.seqK ?_; intro N hN)
    refine SX.ops ?_
    simp only [GA, ↓GB, List.filterMap_cons, eq_self, BEq.rfl, simprocAttr, hnt, hT]
    refine CallVC.pt (l := [_, _, _]) hP (readVarint_any s (by omega)) rfl ?_
    simp only [GA, ↓GB, List.filterMap_cons, eq_self, BEq.rfl, simprocAttr, hnt, hT, rvR_none h]
    refine hN _ ?_
    clear hN N
    repeat (refine SX.seqK ?_; intro N hN)
    refine SX.ops ?_
    simp only [GA, ↓GB, List.filterMap_cons, eq_self, BEq.rfl, simprocAttr, hnt, hT]
    refine hN _ ?_
    clear hN N
    repeat (refine SX.seqK ?_; intro N hN)
    refine SX.cond (b := true) rfl (fun hb => ?_) (fun hb => ?_)
    · repeat (refine SX.seqK ?_; intro N hN)
      refine SX.draw 5 (by rw [hP]; kernel_rfl) (by kernel_rfl) ?_
      simp only [GA, ↓GB, List.filterMap_cons, eq_self, BEq.rfl, simprocAttr, d_nil, d_cons, d_move, d_assign, d_load, d_slice, d_store, d_sto, d_sam, List.take_succ_cons, List.drop_succ_cons, List.drop_zero, List.take_zero, hnt, hT , hw1, hw2, hown, List.not_mem_nil, not_false_eq_true]
      refine hN _ ?_
      clear hN N
      refine SX.ret (hK _ _ (Fin.res rfl hown ?_))
      simp only [GA, ↓GB, List.filterMap_cons, eq_self, BEq.rfl, simprocAttr, f_a, f_b, f_n, f_c, f_B, f_v, f_g, f_0, f_1, f_2, hT, hwi]
      intro w' hb
      exact ⟨_, rfl, ⟨0, 0, 0, [], s, es, rfl, by omega, by rw [hT0]; exact .inl rfl⟩, hb⟩
    · cases hb
  | some tz =>
    obtain ⟨tag, z⟩ := tz
    have hz := NW.readVar_bd h
    have htag := NW.readVar_lt h
    simp only at hz htag
    have d1 : ((tag : Int) * 1 = tag) := by omega
    by_cases ht : tag < 8 ∨ 4294967296 ≤ tag
    · have hT0 : NW.takeF s = none := by simp [NW.takeF, h, ht]
      have hd : (decide (4294967296 ≤ (tag : Int)) || decide ((tag : Int) < 8)) = true := by simp; omega
      refine calls_pureK (args := [.string (B s)]) w Tryd.func164 rfl Tryd.ntmps164 (by simp) ?_
      intro X K hX hK
      have hnt : X.nt = 107 := by rw [hX]
      have hwi : X.wi = w := by rw [hX]
      have hP : X.P = Tryd.prog := by rw [hX]
      have hown : X.own = [] := by rw [hX]
      have hbl : X.base.length = 0 := by rw [hX]; rfl
      clear hX
      have hT : zeroCells X.P 143 = some [(Value.int IntKind.i64 0), (Value.int IntKind.i64 0), (Value.int IntKind.u64 0), (Value.string { data := #[] })] ∧ calleeOk X.P 172 = true ∧ aggOf X.P 143 = some true ∧ szOf X.P 143 = some 4 ∧ aggOf X.P 125 = some false ∧ szOf X.P 125 = some 1 ∧ X.P.underlying 22 = some (TypeDesc.int IntKind.u64) ∧ X.P.underlying 3 = some (TypeDesc.int IntKind.i64) ∧ isBytesT X.P 22 = false ∧ isStrT X.P 3 = false ∧ fieldOff X.P 143 0 = some 0 ∧ szOf X.P 3 = some 1 ∧ fieldOff X.P 143 1 = some 1 ∧ isStrT X.P 9 = true ∧ calleeOk X.P 127 = true ∧ aggOf X.P 3 = some false ∧ mapInf X.P 174 = some ((TypeDesc.int IntKind.i64), (Value.int IntKind.i64 0)) ∧ isBytesT X.P 3 = false ∧ isStrT X.P 22 = false ∧ fieldOff X.P 143 2 = some 2 ∧ szOf X.P 22 = some 1 ∧ X.P.underlying 9 = some TypeDesc.string ∧ fieldOff X.P 143 3 = some 3 ∧ szOf X.P 9 = some 1 := by rw [hP]; exact ⟨Ty.ze143, Ty.co172, Ty.ag143, Ty.sz143, Ty.ag125, Ty.sz125, Tryd.underlying22, Tryd.underlying3, Ty.ib22, Ty.is3, Ty.fo143_0, Ty.sz3, Ty.fo143_1, Ty.is9, Ty.co127, Ty.ag3, Ty.mi174, Ty.ib3, Ty.is22, Ty.fo143_2, Ty.sz22, Tryd.underlying9, Ty.fo143_3, Ty.sz9⟩
      rw [← hwi] at hw1 hw2
      repeat (refine SX.seqK ?_; intro N hN)
      refine SX.ops ?_
      simp only [GA, ↓GB, List.filterMap_cons, eq_self, BEq.rfl, simprocAttr, hnt, hT]
      refine hN _ ?_
      clear hN N
      repeat (refine SX.seqK ?_; intro N hN)
      refine SX.ops ?_
      simp only [GA, ↓GB, List.filterMap_cons, eq_self, BEq.rfl, simprocAttr, hnt, hT]
      refine CallVC.pt (l := [_, _, _]) hP (readVarint_any s (by omega)) rfl ?_
      simp only [GA, ↓GB, List.filterMap_cons, eq_self, BEq.rfl, simprocAttr, hnt, hT, rvR_some h]
      refine hN _ ?_
      clear hN N
      repeat (refine SX.seqK ?_; intro N hN)
      refine SX.ops ?_
      simp only [GA, ↓GB, List.filterMap_cons, eq_self, BEq.rfl, simprocAttr, hnt, hT]
      refine hN _ ?_
      clear hN N
      repeat (refine SX.seqK ?_; intro N hN)
      refine SX.cond (b := false) rfl (fun hb => ?_) (fun hb => ?_)
      · cases hb
      refine SX.skip (hN _ ?_); clear hN N
      repeat (refine SX.seqK ?_; intro N hN)
      refine SX.ops ?_
      simp only [GA, ↓GB, List.filterMap_cons, eq_self, BEq.rfl, simprocAttr, hnt, hT]
      refine SX.merge (d := ⟨[(31, vv (.bool true)), (0, vv (.string (B s))), (2, .one (.c (.loc 0 0))), (5, vv (.int .u64 tag)), (6, vv (.int .i64 z))], [.cells [.v (.int .i64 0), .v (.int .i64 0), .v (.int .u64 0), .v (.string ⟨#[]⟩)] 143]⟩) hN [0] [0] (fun hq => (LeR.of (by rw [hbl]; decide) (by simp only [GA, ↓GB, List.filterMap_cons, eq_self, BEq.rfl, simprocAttr, List.getD_cons_zero, List.getD_cons_succ, or_false, false_or, or_self, or_true, true_or, decide_true]; try (rfl)) (by simp only [GA, ↓GB, List.filterMap_cons, eq_self, BEq.rfl, simprocAttr, List.getD_cons_zero, List.getD_cons_succ, or_false, false_or, or_self, or_true, true_or, decide_true]; try (rfl)) (by decide) (by simp only [GA, ↓GB, List.filterMap_cons, eq_self, BEq.rfl, simprocAttr, List.getD_cons_zero, List.getD_cons_succ, or_false, false_or, or_self, or_true, true_or, decide_true]) (by simp only [GA, ↓GB, List.filterMap_cons, eq_self, BEq.rfl, simprocAttr, List.getD_cons_zero, List.getD_cons_succ, or_false, false_or, or_self, or_true, true_or, decide_true]) (by simp only [GA, ↓GB, List.filterMap_cons, eq_self, BEq.rfl, simprocAttr, List.getD_cons_zero, List.getD_cons_succ, or_false, false_or, or_self, or_true, true_or, decide_true]))) (fun hq => (LeR.of (by rw [hbl]; decide) (by simp only [GA, ↓GB, List.filterMap_cons, eq_self, BEq.rfl, simprocAttr, List.getD_cons_zero, List.getD_cons_succ, or_false, false_or, or_self, or_true, true_or, decide_true]; try (have := of_decide_eq_false hq; simp; omega)) (by simp only [GA, ↓GB, List.filterMap_cons, eq_self, BEq.rfl, simprocAttr, List.getD_cons_zero, List.getD_cons_succ, or_false, false_or, or_self, or_true, true_or, decide_true]; try (have := of_decide_eq_false hq; simp; omega)) (by decide) (by simp only [GA, ↓GB, List.filterMap_cons, eq_self, BEq.rfl, simprocAttr, List.getD_cons_zero, List.getD_cons_succ, or_false, false_or, or_self, or_true, true_or, decide_true]) (by simp only [GA, ↓GB, List.filterMap_cons, eq_self, BEq.rfl, simprocAttr, List.getD_cons_zero, List.getD_cons_succ, or_false, false_or, or_self, or_true, true_or, decide_true]) (by simp only [GA, ↓GB, List.filterMap_cons, eq_self, BEq.rfl, simprocAttr, List.getD_cons_zero, List.getD_cons_succ, or_false, false_or, or_self, or_true, true_or, decide_true]))) ?_
      clear hN N
      repeat (refine SX.seqK ?_; intro N hN)
      refine SX.cond (b := true) rfl (fun hb => ?_) (fun hb => ?_)
      · repeat (refine SX.seqK ?_; intro N hN)
        refine SX.draw 5 (by rw [hP]; kernel_rfl) (by kernel_rfl) ?_
        simp only [GA, ↓GB, List.filterMap_cons, eq_self, BEq.rfl, simprocAttr, d_nil, d_cons, d_move, d_assign, d_load, d_slice, d_store, d_sto, d_sam, List.take_succ_cons, List.drop_succ_cons, List.drop_zero, List.take_zero, hnt, hT , hw1, hw2, hown, List.not_mem_nil, not_false_eq_true]
        refine hN _ ?_
        clear hN N
        refine SX.ret (hK _ _ (Fin.res rfl hown ?_))
        simp only [GA, ↓GB, List.filterMap_cons, eq_self, BEq.rfl, simprocAttr, f_a, f_b, f_n, f_c, f_B, f_v, f_g, f_0, f_1, f_2, hT, hwi]
        intro w' hb
        exact ⟨_, rfl, ⟨0, 0, 0, [], s, ew, rfl, by omega, by rw [hT0]; exact .inr rfl⟩, hb⟩
      · cases hb
    · have g1 : decide (4294967296 ≤ (tag : Int)) = false := by simp; omega
      have g2 : decide ((tag : Int) < 8) = false := by simp; omega
      have q1 : IntKind.u64.wrap ((tag : Int).tdiv 8) = ((tag / 8 : Nat) : Int) := by rw [Int.tdiv_eq_ediv_of_nonneg (by omega), wu64 (by omega) (by omega)]; omega
      have q2 : IntKind.i64.wrap ((tag / 8 : Nat) : Int) = ((tag / 8 : Nat) : Int) := wi64 (by omega) (by omega)
      have q3 : (tag : Int).tmod 8 = ((tag % 8 : Nat) : Int) := by rw [Int.tmod_eq_emod_of_nonneg (by omega)]; omega
      have q4 : IntKind.i64.wrap ((tag % 8 : Nat) : Int) = ((tag % 8 : Nat) : Int) := wi64 (by omega) (by omega)
      have hk8 : tag % 8 < 8 := Nat.mod_lt _ (by decide)
      refine calls_pureK (args := [.string (B s)]) w Tryd.func164 rfl Tryd.ntmps164 (by simp) ?_
      intro X K hX hK
      have hnt : X.nt = 107 := by rw [hX]
      have hwi : X.wi = w := by rw [hX]
      have hP : X.P = Tryd.prog := by rw [hX]
      have hown : X.own = [] := by rw [hX]
      have hbl : X.base.length = 0 := by rw [hX]; rfl
      clear hX
      have hT : zeroCells X.P 143 = some [(Value.int IntKind.i64 0), (Value.int IntKind.i64 0), (Value.int IntKind.u64 0), (Value.string { data := #[] })] ∧ calleeOk X.P 172 = true ∧ aggOf X.P 143 = some true ∧ szOf X.P 143 = some 4 ∧ aggOf X.P 125 = some false ∧ szOf X.P 125 = some 1 ∧ X.P.underlying 22 = some (TypeDesc.int IntKind.u64) ∧ X.P.underlying 3 = some (TypeDesc.int IntKind.i64) ∧ isBytesT X.P 22 = false ∧ isStrT X.P 3 = false ∧ fieldOff X.P 143 0 = some 0 ∧ szOf X.P 3 = some 1 ∧ fieldOff X.P 143 1 = some 1 ∧ isStrT X.P 9 = true ∧ calleeOk X.P 127 = true ∧ aggOf X.P 3 = some false ∧ mapInf X.P 174 = some ((TypeDesc.int IntKind.i64), (Value.int IntKind.i64 0)) ∧ isBytesT X.P 3 = false ∧ isStrT X.P 22 = false ∧ fieldOff X.P 143 2 = some 2 ∧ szOf X.P 22 = some 1 ∧ X.P.underlying 9 = some TypeDesc.string ∧ fieldOff X.P 143 3 = some 3 ∧ szOf X.P 9 = some 1 := by rw [hP]; exact ⟨Ty.ze143, Ty.co172, Ty.ag143, Ty.sz143, Ty.ag125, Ty.sz125, Tryd.underlying22, Tryd.underlying3, Ty.ib22, Ty.is3, Ty.fo143_0, Ty.sz3, Ty.fo143_1, Ty.is9, Ty.co127, Ty.ag3, Ty.mi174, Ty.ib3, Ty.is22, Ty.fo143_2, Ty.sz22, Tryd.underlying9, Ty.fo143_3, Ty.sz9⟩
      rw [← hwi] at hw1 hw2
      repeat (refine SX.seqK ?_; intro N hN)
      refine SX.ops ?_
      simp only [GA, ↓GB, List.filterMap_cons, eq_self, BEq.rfl, simprocAttr, hnt, hT]
      refine hN _ ?_
      clear hN N
      repeat (refine SX.seqK ?_; intro N hN)
      refine SX.ops ?_
      simp only [GA, ↓GB, List.filterMap_cons, eq_self, BEq.rfl, simprocAttr, hnt, hT]
      refine CallVC.pt (l := [_, _, _]) hP (readVarint_any s (by omega)) rfl ?_
      simp only [GA, ↓GB, List.filterMap_cons, eq_self, BEq.rfl, simprocAttr, hnt, hT, rvR_some h]
      refine hN _ ?_
      clear hN N
      repeat (refine SX.seqK ?_; intro N hN)
      refine SX.ops ?_
      simp only [GA, ↓GB, List.filterMap_cons, eq_self, BEq.rfl, simprocAttr, hnt, hT]
      refine hN _ ?_
      clear hN N
      repeat (refine SX.seqK ?_; intro N hN)
      refine SX.cond (b := false) rfl (fun hb => ?_) (fun hb => ?_)
      · cases hb
      refine SX.skip (hN _ ?_); clear hN N
      repeat (refine SX.seqK ?_; intro N hN)
      refine SX.ops ?_
      simp only [GA, ↓GB, List.filterMap_cons, eq_self, BEq.rfl, simprocAttr, hnt, hT , g1, g2]
      refine hN _ ?_
      clear hN N
      repeat (refine SX.seqK ?_; intro N hN)
      refine SX.cond (b := false) rfl (fun hb => ?_) (fun hb => ?_)
      · cases hb
      refine SX.skip (hN _ ?_); clear hN N
      repeat (refine SX.seqK ?_; intro N hN)
      refine SX.ops ?_
      simp only [GA, ↓GB, List.filterMap_cons, eq_self, BEq.rfl, simprocAttr, hnt, hT , q1, q2, q3, q4]
      repeat (refine and_mk (by decide) ?_)
      have hdt : List.take (s.length - z) (List.drop z s) = List.drop z s := List.take_of_length_le (by simp)
      generalize hnum : tag / 8 = num at *
      generalize hkind : tag % 8 = kind at *
      refine SX.less (d := ⟨[(0, vv (.string (B s))), (2, .one (.c (.loc 0 0))), (6, vv (.int .i64 z))], [.cells [.v (.int .i64 num), .v (.int .i64 kind), .v (.int .u64 0), .v (.string ⟨#[]⟩)] 143]⟩) hN [0] (LeR.of (by rw [hbl]; decide) (by simp only [GA, ↓GB, List.filterMap_cons, eq_self, BEq.rfl, simprocAttr, List.getD_cons_zero, List.getD_cons_succ, or_false, false_or, or_self, or_true, true_or, decide_true]; try (rfl)) (by simp only [GA, ↓GB, List.filterMap_cons, eq_self, BEq.rfl, simprocAttr, List.getD_cons_zero, List.getD_cons_succ, or_false, false_or, or_self, or_true, true_or, decide_true]; try (rfl)) (by decide) (by simp only [GA, ↓GB, List.filterMap_cons, eq_self, BEq.rfl, simprocAttr, List.getD_cons_zero, List.getD_cons_succ, or_false, false_or, or_self, or_true, true_or, decide_true]) (by simp only [GA, ↓GB, List.filterMap_cons, eq_self, BEq.rfl, simprocAttr, List.getD_cons_zero, List.getD_cons_succ, or_false, false_or, or_self, or_true, true_or, decide_true]) (by simp only [GA, ↓GB, List.filterMap_cons, eq_self, BEq.rfl, simprocAttr, List.getD_cons_zero, List.getD_cons_succ, or_false, false_or, or_self, or_true, true_or, decide_true])) ?_
      clear hN N
      repeat (refine SX.seqK ?_; intro N hN)
      refine SX.ops ?_
      simp only [GA, ↓GB, List.filterMap_cons, eq_self, BEq.rfl, simprocAttr, hnt, hT , hdt]
      repeat (refine and_mk (by omega) ?_)
      refine hN _ ?_
      clear hN N
      repeat (refine SX.seqK ?_; intro N hN)
      refine SX.ops ?_
      simp only [GA, ↓GB, List.filterMap_cons, eq_self, BEq.rfl, simprocAttr, hnt, hT]
      refine CallVC.inline (by rw [hP]; exact Tryd.func127) rfl Tryd.ntmps127 rfl (by simp) ?_
      have hP0 := hP
      intro X K hU hnt hbl hK
      have hP : X.P = Tryd.prog := (by rw [hU.P, hP0])
      have hT : mapInf X.P 174 = some ((TypeDesc.int IntKind.i64), (Value.int IntKind.i64 0)) := by rw [hP]; exact Ty.mi174
      simp only [GA, ↓GB, List.filterMap_cons, eq_self, BEq.rfl, simprocAttr] at hbl ⊢
      repeat (refine SX.seqK ?_; intro N hN)
      refine SX.ops ?_
      simp only [GA, ↓GB, List.filterMap_cons, eq_self, BEq.rfl, simprocAttr, hnt, hT]
      refine hN _ ?_
      clear hN N
      repeat (refine SX.seqK ?_; intro N hN)
      refine SX.ops ?_
      simp only [GA, ↓GB, List.filterMap_cons, eq_self, BEq.rfl, simprocAttr, hnt, hT]
      refine hN _ ?_
      clear hN N
      refine SX.ret (hK _ _ (FinI.ret3 ?_)); simp only [GA, ↓GB, List.filterMap_cons, eq_self, BEq.rfl, simprocAttr, finP_s, hnt, hT]; clear hT hP hP0 hK hbl hnt hU K X
      refine hN _ ?_
      clear hN N
      generalize hs2 : List.drop z s = s2
      have hs2l : s2.length + z = s.length := by rw [← hs2]; simp; omega
      by_cases hk1 : kind = 1
      · have k0 : ((kind : Int) == 0) = false := by rw [hk1]; rfl
        have k1 : ((kind : Int) == 1) = true := by rw [hk1]; rfl
        have k2 : ((kind : Int) == 2) = false := by rw [hk1]; rfl
        repeat (refine SX.seqK ?_; intro N hN)
        refine SX.ops ?_
        simp only [GA, ↓GB, List.filterMap_cons, eq_self, BEq.rfl, simprocAttr, hnt, hT , k0, k1, k2]
        refine hN _ ?_
        clear hN N
        repeat (refine SX.seqK ?_; intro N hN)
        refine SX.ops ?_
        simp only [GA, ↓GB, List.filterMap_cons, eq_self, BEq.rfl, simprocAttr, hnt, hT , wu64]
        refine hN _ ?_
        clear hN N
        repeat (refine SX.seqK ?_; intro N hN)
        refine SX.ops ?_
        simp only [GA, ↓GB, List.filterMap_cons, eq_self, BEq.rfl, simprocAttr, hnt, hT , k0, k1, k2]
        refine hN _ ?_
        clear hN N
        repeat (refine SX.seqK ?_; intro N hN)
        refine SX.cond (b := false) rfl (fun hb => ?_) (fun hb => ?_)
        · cases hb
        refine SX.skip ?_
        simp only [GA, ↓GB, List.filterMap_cons, eq_self, BEq.rfl, simprocAttr, hnt]
        refine hN _ ?_
        clear hN N
        refine SX.seqK ?_; intro N hN
        refine SX.block ?_
        repeat (refine SX.seqK ?_; intro N hN)
        refine SX.ops ?_
        simp only [GA, ↓GB, List.filterMap_cons, eq_self, BEq.rfl, simprocAttr, hnt, hT]
        refine hN _ ?_
        clear hN N
        repeat (refine SX.seqK ?_; intro N hN)
        refine SX.cond (b := false) rfl (fun hb => ?_) (fun hb => ?_)
        · cases hb
        have wL : IntKind.u64.wrap 8 = 8 := by decide
        have wl : IntKind.u64.wrap (s2.length : Int) = (s2.length : Int) := wu64 (by omega) (by omega)
        by_cases hl : s2.length < 8
        · have dL : decide ((s2.length : Int) < 8) = true := by simp; omega
          have hT0 : NW.takeF s = none := by
            rw [NW.takeF, h]; simp only []; rw [if_neg (by omega), hkind, hs2, hk1, hnum]; simp [NW.body, hl]; try omega
          repeat (refine SX.seqK ?_; intro N hN)
          refine SX.ops ?_
          simp only [GA, ↓GB, List.filterMap_cons, eq_self, BEq.rfl, simprocAttr, hnt, hT , wL, wl, dL]
          refine hN _ ?_
          clear hN N
          repeat (refine SX.seqK ?_; intro N hN)
          refine SX.cond (b := true) rfl (fun hb => ?_) (fun hb => ?_)
          · repeat (refine SX.seqK ?_; intro N hN)
            refine SX.draw 5 (by rw [hP]; kernel_rfl) (by kernel_rfl) ?_
            simp only [GA, ↓GB, List.filterMap_cons, eq_self, BEq.rfl, simprocAttr, d_nil, d_cons, d_move, d_assign, d_load, d_slice, d_store, d_sto, d_sam, List.take_succ_cons, List.drop_succ_cons, List.drop_zero, List.take_zero, hnt, hT , hw1, hw2, hown, List.not_mem_nil, not_false_eq_true]
            refine hN _ ?_
            clear hN N
            refine SX.ret (hK _ _ (Fin.res rfl hown ?_))
            simp only [GA, ↓GB, List.filterMap_cons, eq_self, BEq.rfl, simprocAttr, f_a, f_b, f_n, f_c, f_B, f_v, f_g, f_0, f_1, f_2, hT, hwi]
            intro w' hb
            exact ⟨_, rfl, ⟨num, kind, 0, [], s2, es, rfl, by rw [← hs2]; simp, by rw [hT0]; exact .inl rfl⟩, hb⟩
          · cases hb
        · have dL : decide ((s2.length : Int) < 8) = false := by simp; omega
          have hT1 : NW.takeF s = some (⟨num, kind, 0, s2.take 8⟩, s2.drop 8) := by
            rw [NW.takeF, h]; simp only []; rw [if_neg (by omega), hkind, hs2, hk1, hnum]; simp [NW.body]; omega
          repeat (refine SX.seqK ?_; intro N hN)
          refine SX.ops ?_
          simp only [GA, ↓GB, List.filterMap_cons, eq_self, BEq.rfl, simprocAttr, hnt, hT , wL, wl, dL]
          refine hN _ ?_
          clear hN N
          repeat (refine SX.seqK ?_; intro N hN)
          refine SX.cond (b := false) rfl (fun hb => ?_) (fun hb => ?_)
          · cases hb
          refine SX.skip ?_
          simp only [GA, ↓GB, List.filterMap_cons, eq_self, BEq.rfl, simprocAttr, hnt]
          refine hN _ ?_
          clear hN N
          repeat (refine SX.seqK ?_; intro N hN)
          refine SX.ops ?_
          simp only [GA, ↓GB, List.filterMap_cons, eq_self, BEq.rfl, simprocAttr, hnt, hT]
          repeat (refine and_mk (by omega) ?_)
          refine hN _ ?_
          clear hN N
          repeat (refine SX.seqK ?_; intro N hN)
          refine SX.draw 5 (by rw [hP]; kernel_rfl) (by kernel_rfl) ?_
          simp only [GA, ↓GB, List.filterMap_cons, eq_self, BEq.rfl, simprocAttr, d_nil, d_cons, d_move, d_assign, d_load, d_slice, d_store, d_sto, d_sam, List.take_succ_cons, List.drop_succ_cons, List.drop_zero, List.take_zero, hnt, hT , hw1, hw2, hown, List.not_mem_nil, not_false_eq_true]
          repeat (refine and_mk (by omega) ?_)
          refine hN _ ?_
          clear hN N
          refine SX.ret (hK _ _ (Fin.res rfl hown ?_))
          simp only [GA, ↓GB, List.filterMap_cons, eq_self, BEq.rfl, simprocAttr, f_a, f_b, f_n, f_c, f_B, f_v, f_g, f_0, f_1, f_2, hT, hwi]
          intro w' hb
          refine ⟨_, rfl, ⟨num, kind, 0, s2.take 8, s2.drop 8, .nilIface, ?_, by rw [List.length_drop]; omega, by rw [hT1]; exact ⟨rfl, by simp [hk1], rfl, rfl, rfl, rfl⟩⟩, hb⟩
          rw [show List.take (s2.length - 8) (List.drop 8 s2) = s2.drop 8 from List.take_of_length_le (by simp)]; rfl
      by_cases hk5 : kind = 5
      · have k0 : ((kind : Int) == 0) = false := by rw [hk5]; rfl
        have k1 : ((kind : Int) == 1) = false := by rw [hk5]; rfl
        have k5 : ((kind : Int) == 5) = true := by rw [hk5]; rfl
        have k2 : ((kind : Int) == 2) = false := by rw [hk5]; rfl
        repeat (refine SX.seqK ?_; intro N hN)
        refine SX.ops ?_
        simp only [GA, ↓GB, List.filterMap_cons, eq_self, BEq.rfl, simprocAttr, hnt, hT , k0, k1, k5, k2]
        refine hN _ ?_
        clear hN N
        repeat (refine SX.seqK ?_; intro N hN)
        refine SX.ops ?_
        simp only [GA, ↓GB, List.filterMap_cons, eq_self, BEq.rfl, simprocAttr, hnt, hT , wu64]
        refine hN _ ?_
        clear hN N
        repeat (refine SX.seqK ?_; intro N hN)
        refine SX.ops ?_
        simp only [GA, ↓GB, List.filterMap_cons, eq_self, BEq.rfl, simprocAttr, hnt, hT , k0, k1, k5, k2]
        refine hN _ ?_
        clear hN N
        repeat (refine SX.seqK ?_; intro N hN)
        refine SX.cond (b := false) rfl (fun hb => ?_) (fun hb => ?_)
        · cases hb
        refine SX.skip ?_
        simp only [GA, ↓GB, List.filterMap_cons, eq_self, BEq.rfl, simprocAttr, hnt]
        refine hN _ ?_
        clear hN N
        refine SX.seqK ?_; intro N hN
        refine SX.block ?_
        repeat (refine SX.seqK ?_; intro N hN)
        refine SX.ops ?_
        simp only [GA, ↓GB, List.filterMap_cons, eq_self, BEq.rfl, simprocAttr, hnt, hT]
        refine hN _ ?_
        clear hN N
        repeat (refine SX.seqK ?_; intro N hN)
        refine SX.cond (b := false) rfl (fun hb => ?_) (fun hb => ?_)
        · cases hb
        have wL : IntKind.u64.wrap 4 = 4 := by decide
        have wl : IntKind.u64.wrap (s2.length : Int) = (s2.length : Int) := wu64 (by omega) (by omega)
        by_cases hl : s2.length < 4
        · have dL : decide ((s2.length : Int) < 4) = true := by simp; omega
          have hT0 : NW.takeF s = none := by
            rw [NW.takeF, h]; simp only []; rw [if_neg (by omega), hkind, hs2, hk5, hnum]; simp [NW.body, hl]; try omega
          repeat (refine SX.seqK ?_; intro N hN)
          refine SX.ops ?_
          simp only [GA, ↓GB, List.filterMap_cons, eq_self, BEq.rfl, simprocAttr, hnt, hT , wL, wl, dL]
          refine hN _ ?_
          clear hN N
          repeat (refine SX.seqK ?_; intro N hN)
          refine SX.cond (b := true) rfl (fun hb => ?_) (fun hb => ?_)
          · repeat (refine SX.seqK ?_; intro N hN)
            refine SX.draw 5 (by rw [hP]; kernel_rfl) (by kernel_rfl) ?_
            simp only [GA, ↓GB, List.filterMap_cons, eq_self, BEq.rfl, simprocAttr, d_nil, d_cons, d_move, d_assign, d_load, d_slice, d_store, d_sto, d_sam, List.take_succ_cons, List.drop_succ_cons, List.drop_zero, List.take_zero, hnt, hT , hw1, hw2, hown, List.not_mem_nil, not_false_eq_true]
            refine hN _ ?_
            clear hN N
            refine SX.ret (hK _ _ (Fin.res rfl hown ?_))
            simp only [GA, ↓GB, List.filterMap_cons, eq_self, BEq.rfl, simprocAttr, f_a, f_b, f_n, f_c, f_B, f_v, f_g, f_0, f_1, f_2, hT, hwi]
            intro w' hb
            exact ⟨_, rfl, ⟨num, kind, 0, [], s2, es, rfl, by rw [← hs2]; simp, by rw [hT0]; exact .inl rfl⟩, hb⟩
          · cases hb
        · have dL : decide ((s2.length : Int) < 4) = false := by simp; omega
          have hT1 : NW.takeF s = some (⟨num, kind, 0, s2.take 4⟩, s2.drop 4) := by
            rw [NW.takeF, h]; simp only []; rw [if_neg (by omega), hkind, hs2, hk5, hnum]; simp [NW.body]; omega
          repeat (refine SX.seqK ?_; intro N hN)
          refine SX.ops ?_
          simp only [GA, ↓GB, List.filterMap_cons, eq_self, BEq.rfl, simprocAttr, hnt, hT , wL, wl, dL]
          refine hN _ ?_
          clear hN N
          repeat (refine SX.seqK ?_; intro N hN)
          refine SX.cond (b := false) rfl (fun hb => ?_) (fun hb => ?_)
          · cases hb
          refine SX.skip ?_
          simp only [GA, ↓GB, List.filterMap_cons, eq_self, BEq.rfl, simprocAttr, hnt]
          refine hN _ ?_
          clear hN N
          repeat (refine SX.seqK ?_; intro N hN)
          refine SX.ops ?_
          simp only [GA, ↓GB, List.filterMap_cons, eq_self, BEq.rfl, simprocAttr, hnt, hT]
          repeat (refine and_mk (by omega) ?_)
          refine hN _ ?_
          clear hN N
          repeat (refine SX.seqK ?_; intro N hN)
          refine SX.draw 5 (by rw [hP]; kernel_rfl) (by kernel_rfl) ?_
          simp only [GA, ↓GB, List.filterMap_cons, eq_self, BEq.rfl, simprocAttr, d_nil, d_cons, d_move, d_assign, d_load, d_slice, d_store, d_sto, d_sam, List.take_succ_cons, List.drop_succ_cons, List.drop_zero, List.take_zero, hnt, hT , hw1, hw2, hown, List.not_mem_nil, not_false_eq_true]
          repeat (refine and_mk (by omega) ?_)
          refine hN _ ?_
          clear hN N
          refine SX.ret (hK _ _ (Fin.res rfl hown ?_))
          simp only [GA, ↓GB, List.filterMap_cons, eq_self, BEq.rfl, simprocAttr, f_a, f_b, f_n, f_c, f_B, f_v, f_g, f_0, f_1, f_2, hT, hwi]
          intro w' hb
          refine ⟨_, rfl, ⟨num, kind, 0, s2.take 4, s2.drop 4, .nilIface, ?_, by rw [List.length_drop]; omega, by rw [hT1]; exact ⟨rfl, by simp [hk5], rfl, rfl, rfl, rfl⟩⟩, hb⟩
          rw [show List.take (s2.length - 4) (List.drop 4 s2) = s2.drop 4 from List.take_of_length_le (by simp)]; rfl
      have k1 : ((kind : Int) == 1) = false := by simp; omega
      have k5 : ((kind : Int) == 5) = false := by simp; omega
      by_cases hk0 : kind = 0
      · have k0 : ((kind : Int) == 0) = true := by rw [hk0]; rfl
        repeat (refine SX.seqK ?_; intro N hN)
        refine SX.ops ?_
        simp only [GA, ↓GB, List.filterMap_cons, eq_self, BEq.rfl, simprocAttr, hnt, hT , k0]
        refine hN _ ?_
        clear hN N
        repeat (refine SX.seqK ?_; intro N hN)
        refine SX.ops ?_
        simp only [GA, ↓GB, List.filterMap_cons, eq_self, BEq.rfl, simprocAttr, hnt, hT]
        refine hN _ ?_
        clear hN N
        repeat (refine SX.seqK ?_; intro N hN)
        refine SX.ops ?_
        simp only [GA, ↓GB, List.filterMap_cons, eq_self, BEq.rfl, simprocAttr, hnt, hT , k0]
        refine hN _ ?_
        clear hN N
        repeat (refine SX.seqK ?_; intro N hN)
        refine SX.cond (b := true) rfl (fun hb => ?_) (fun hb => ?_)
        rotate_left
        · cases hb
        repeat (refine SX.seqK ?_; intro N hN)
        refine SX.ops ?_
        simp only [GA, ↓GB, List.filterMap_cons, eq_self, BEq.rfl, simprocAttr, hnt, hT]
        refine CallVC.pt (l := [_, _, _]) hP (readVarint_any s2 (by omega)) rfl ?_
        cases h3 : NW.readVar s2 with
        | none =>
          have hT0 : NW.takeF s = none := by
            rw [NW.takeF, h]; simp only []; rw [if_neg (by omega), hkind, hs2, hk0]; simp [NW.body, h3]
          simp only [GA, ↓GB, List.filterMap_cons, eq_self, BEq.rfl, simprocAttr, hnt, hT, rvR_none h3]
          refine hN _ ?_
          clear hN N
          repeat (refine SX.seqK ?_; intro N hN)
          refine SX.ops ?_
          simp only [GA, ↓GB, List.filterMap_cons, eq_self, BEq.rfl, simprocAttr, hnt, hT]
          refine hN _ ?_
          clear hN N
          repeat (refine SX.seqK ?_; intro N hN)
          refine SX.cond (b := true) rfl (fun hb => ?_) (fun hb => ?_)
          · repeat (refine SX.seqK ?_; intro N hN)
            refine SX.draw 5 (by rw [hP]; kernel_rfl) (by kernel_rfl) ?_
            simp only [GA, ↓GB, List.filterMap_cons, eq_self, BEq.rfl, simprocAttr, d_nil, d_cons, d_move, d_assign, d_load, d_slice, d_store, d_sto, d_sam, List.take_succ_cons, List.drop_succ_cons, List.drop_zero, List.take_zero, hnt, hT , hw1, hw2, hown, List.not_mem_nil, not_false_eq_true]
            refine hN _ ?_
            clear hN N
            refine SX.ret (hK _ _ (Fin.res rfl hown ?_))
            simp only [GA, ↓GB, List.filterMap_cons, eq_self, BEq.rfl, simprocAttr, f_a, f_b, f_n, f_c, f_B, f_v, f_g, f_0, f_1, f_2, hT, hwi]
            intro w' hb
            exact ⟨_, rfl, ⟨num, kind, 0, [], s2, es, rfl, by omega, by rw [hT0]; exact .inl rfl⟩, hb⟩
          · cases hb
        | some vz =>
          obtain ⟨v, z2⟩ := vz
          have hz2 := NW.readVar_bd h3
          have hv := NW.readVar_lt h3
          simp only at hz2 hv
          have hdt2 : List.take (s2.length - z2) (List.drop z2 s2) = List.drop z2 s2 := List.take_of_length_le (by simp)
          simp only [GA, ↓GB, List.filterMap_cons, eq_self, BEq.rfl, simprocAttr, hnt, hT, rvR_some h3]
          refine hN _ ?_
          clear hN N
          repeat (refine SX.seqK ?_; intro N hN)
          refine SX.ops ?_
          simp only [GA, ↓GB, List.filterMap_cons, eq_self, BEq.rfl, simprocAttr, hnt, hT]
          refine hN _ ?_
          clear hN N
          repeat (refine SX.seqK ?_; intro N hN)
          refine SX.cond (b := false) rfl (fun hb => ?_) (fun hb => ?_)
          · cases hb
          refine SX.skip (hN _ ?_); clear hN N
          repeat (refine SX.seqK ?_; intro N hN)
          refine SX.ops ?_
          simp only [GA, ↓GB, List.filterMap_cons, eq_self, BEq.rfl, simprocAttr, hnt, hT , hdt2]
          repeat (refine and_mk (by omega) ?_)
          refine hN _ ?_
          clear hN N
          generalize hs3 : List.drop z2 s2 = s3
          have hs3l : s3.length + z2 = s2.length := by rw [← hs3]; simp; omega
          have wl : IntKind.u64.wrap (s3.length : Int) = (s3.length : Int) := wu64 (by omega) (by omega)
          repeat (refine SX.seqK ?_; intro N hN)
          refine SX.ops ?_
          simp only [GA, ↓GB, List.filterMap_cons, eq_self, BEq.rfl, simprocAttr, hnt, hT , k0]
          refine hN _ ?_
          clear hN N
          repeat (refine SX.seqK ?_; intro N hN)
          refine SX.cond (b := true) rfl (fun hb => ?_) (fun hb => ?_)
          rotate_left
          · cases hb
          have hT1 : NW.takeF s = some (⟨num, kind, v, []⟩, s3) := by
            rw [NW.takeF, h]; simp only []; rw [if_neg (by omega), hkind, hs2, hk0, hnum]; simp [NW.body, h3, hs3]
          have dL : decide ((s3.length : Int) < 0) = false := by simp
          have w0 : IntKind.u64.wrap 0 = 0 := by decide
          repeat (refine SX.seqK ?_; intro N hN)
          refine SX.ops ?_
          simp only [GA, ↓GB, List.filterMap_cons, eq_self, BEq.rfl, simprocAttr, hnt, hT]
          refine hN _ ?_
          clear hN N
          refine SX.seqK ?_; intro N hN
          refine SX.block ?_
          repeat (refine SX.seqK ?_; intro N hN)
          refine SX.ops ?_
          simp only [GA, ↓GB, List.filterMap_cons, eq_self, BEq.rfl, simprocAttr, hnt, hT]
          refine hN _ ?_
          clear hN N
          repeat (refine SX.seqK ?_; intro N hN)
          refine SX.cond (b := false) rfl (fun hb => ?_) (fun hb => ?_)
          · cases hb
          repeat (refine SX.seqK ?_; intro N hN)
          refine SX.ops ?_
          simp only [GA, ↓GB, List.filterMap_cons, eq_self, BEq.rfl, simprocAttr, hnt, hT , w0, wl, dL]
          refine hN _ ?_
          clear hN N
          repeat (refine SX.seqK ?_; intro N hN)
          refine SX.cond (b := false) rfl (fun hb => ?_) (fun hb => ?_)
          · cases hb
          refine SX.skip ?_
          simp only [GA, ↓GB, List.filterMap_cons, eq_self, BEq.rfl, simprocAttr, hnt]
          refine hN _ ?_
          clear hN N
          repeat (refine SX.seqK ?_; intro N hN)
          refine SX.ops ?_
          simp only [GA, ↓GB, List.filterMap_cons, eq_self, BEq.rfl, simprocAttr, hnt, hT]
          repeat (refine and_mk (by omega) ?_)
          refine hN _ ?_
          clear hN N
          repeat (refine SX.seqK ?_; intro N hN)
          refine SX.draw 5 (by rw [hP]; kernel_rfl) (by kernel_rfl) ?_
          simp only [GA, ↓GB, List.filterMap_cons, eq_self, BEq.rfl, simprocAttr, d_nil, d_cons, d_move, d_assign, d_load, d_slice, d_store, d_sto, d_sam, List.take_succ_cons, List.drop_succ_cons, List.drop_zero, List.take_zero, hnt, hT , hw1, hw2, hown, List.not_mem_nil, not_false_eq_true]
          repeat (refine and_mk (by omega) ?_)
          refine hN _ ?_
          clear hN N
          refine SX.ret (hK _ _ (Fin.res rfl hown ?_))
          simp only [GA, ↓GB, List.filterMap_cons, eq_self, BEq.rfl, simprocAttr, f_a, f_b, f_n, f_c, f_B, f_v, f_g, f_0, f_1, f_2, hT, hwi]
          intro w' hb
          refine ⟨_, rfl, ⟨num, kind, v, [], s3, .nilIface, ?_, by omega, by rw [hT1]; exact ⟨rfl, by simp [hk0], rfl, rfl, rfl, rfl⟩⟩, hb⟩
          rw [show List.take (s3.length - 0) s3 = s3 from by simp]
      have k0 : ((kind : Int) == 0) = false := by simp; omega
      by_cases hk2 : kind = 2
      · have k2 : ((kind : Int) == 2) = true := by rw [hk2]; rfl
        repeat (refine SX.seqK ?_; intro N hN)
        refine SX.ops ?_
        simp only [GA, ↓GB, List.filterMap_cons, eq_self, BEq.rfl, simprocAttr, hnt, hT , k0, k1, k5]
        refine hN _ ?_
        clear hN N
        repeat (refine SX.seqK ?_; intro N hN)
        refine SX.ops ?_
        simp only [GA, ↓GB, List.filterMap_cons, eq_self, BEq.rfl, simprocAttr, hnt, hT]
        refine hN _ ?_
        clear hN N
        repeat (refine SX.seqK ?_; intro N hN)
        refine SX.ops ?_
        simp only [GA, ↓GB, List.filterMap_cons, eq_self, BEq.rfl, simprocAttr, hnt, hT , k0, k2]
        refine hN _ ?_
        clear hN N
        repeat (refine SX.seqK ?_; intro N hN)
        refine SX.cond (b := true) rfl (fun hb => ?_) (fun hb => ?_)
        rotate_left
        · cases hb
        repeat (refine SX.seqK ?_; intro N hN)
        refine SX.ops ?_
        simp only [GA, ↓GB, List.filterMap_cons, eq_self, BEq.rfl, simprocAttr, hnt, hT]
        refine CallVC.pt (l := [_, _, _]) hP (readVarint_any s2 (by omega)) rfl ?_
        cases h3 : NW.readVar s2 with
        | none =>
          have hT0 : NW.takeF s = none := by
            rw [NW.takeF, h]; simp only []; rw [if_neg (by omega), hkind, hs2, hk2]; simp [NW.body, h3]
          simp only [GA, ↓GB, List.filterMap_cons, eq_self, BEq.rfl, simprocAttr, hnt, hT, rvR_none h3]
          refine hN _ ?_
          clear hN N
          repeat (refine SX.seqK ?_; intro N hN)
          refine SX.ops ?_
          simp only [GA, ↓GB, List.filterMap_cons, eq_self, BEq.rfl, simprocAttr, hnt, hT]
          refine hN _ ?_
          clear hN N
          repeat (refine SX.seqK ?_; intro N hN)
          refine SX.cond (b := true) rfl (fun hb => ?_) (fun hb => ?_)
          · repeat (refine SX.seqK ?_; intro N hN)
            refine SX.draw 5 (by rw [hP]; kernel_rfl) (by kernel_rfl) ?_
            simp only [GA, ↓GB, List.filterMap_cons, eq_self, BEq.rfl, simprocAttr, d_nil, d_cons, d_move, d_assign, d_load, d_slice, d_store, d_sto, d_sam, List.take_succ_cons, List.drop_succ_cons, List.drop_zero, List.take_zero, hnt, hT , hw1, hw2, hown, List.not_mem_nil, not_false_eq_true]
            refine hN _ ?_
            clear hN N
            refine SX.ret (hK _ _ (Fin.res rfl hown ?_))
            simp only [GA, ↓GB, List.filterMap_cons, eq_self, BEq.rfl, simprocAttr, f_a, f_b, f_n, f_c, f_B, f_v, f_g, f_0, f_1, f_2, hT, hwi]
            intro w' hb
            exact ⟨_, rfl, ⟨num, kind, 0, [], s2, es, rfl, by omega, by rw [hT0]; exact .inl rfl⟩, hb⟩
          · cases hb
        | some vz =>
          obtain ⟨v, z2⟩ := vz
          have hz2 := NW.readVar_bd h3
          have hv := NW.readVar_lt h3
          simp only at hz2 hv
          have hdt2 : List.take (s2.length - z2) (List.drop z2 s2) = List.drop z2 s2 := List.take_of_length_le (by simp)
          simp only [GA, ↓GB, List.filterMap_cons, eq_self, BEq.rfl, simprocAttr, hnt, hT, rvR_some h3]
          refine hN _ ?_
          clear hN N
          repeat (refine SX.seqK ?_; intro N hN)
          refine SX.ops ?_
          simp only [GA, ↓GB, List.filterMap_cons, eq_self, BEq.rfl, simprocAttr, hnt, hT]
          refine hN _ ?_
          clear hN N
          repeat (refine SX.seqK ?_; intro N hN)
          refine SX.cond (b := false) rfl (fun hb => ?_) (fun hb => ?_)
          · cases hb
          refine SX.skip (hN _ ?_); clear hN N
          repeat (refine SX.seqK ?_; intro N hN)
          refine SX.ops ?_
          simp only [GA, ↓GB, List.filterMap_cons, eq_self, BEq.rfl, simprocAttr, hnt, hT , hdt2]
          repeat (refine and_mk (by omega) ?_)
          refine hN _ ?_
          clear hN N
          generalize hs3 : List.drop z2 s2 = s3
          have hs3l : s3.length + z2 = s2.length := by rw [← hs3]; simp; omega
          have wl : IntKind.u64.wrap (s3.length : Int) = (s3.length : Int) := wu64 (by omega) (by omega)
          repeat (refine SX.seqK ?_; intro N hN)
          refine SX.ops ?_
          simp only [GA, ↓GB, List.filterMap_cons, eq_self, BEq.rfl, simprocAttr, hnt, hT , k0]
          refine hN _ ?_
          clear hN N
          repeat (refine SX.seqK ?_; intro N hN)
          refine SX.cond (b := false) rfl (fun hb => ?_) (fun hb => ?_)
          · cases hb
          repeat (refine SX.seqK ?_; intro N hN)
          refine SX.ops ?_
          simp only [GA, ↓GB, List.filterMap_cons, eq_self, BEq.rfl, simprocAttr, hnt, hT]
          refine hN _ ?_
          clear hN N
          refine SX.seqK ?_; intro N hN
          refine SX.block ?_
          repeat (refine SX.seqK ?_; intro N hN)
          refine SX.ops ?_
          simp only [GA, ↓GB, List.filterMap_cons, eq_self, BEq.rfl, simprocAttr, hnt, hT]
          refine hN _ ?_
          clear hN N
          repeat (refine SX.seqK ?_; intro N hN)
          refine SX.cond (b := false) rfl (fun hb => ?_) (fun hb => ?_)
          · cases hb
          by_cases hl : s3.length < v
          · have dL : decide ((s3.length : Int) < (v : Int)) = true := by simp; omega
            have hT0 : NW.takeF s = none := by
              rw [NW.takeF, h]; simp only []; rw [if_neg (by omega), hkind, hs2, hk2]; simp [NW.body, h3, hs3]; omega
            repeat (refine SX.seqK ?_; intro N hN)
            refine SX.ops ?_
            simp only [GA, ↓GB, List.filterMap_cons, eq_self, BEq.rfl, simprocAttr, hnt, hT , wl, dL]
            refine hN _ ?_
            clear hN N
            repeat (refine SX.seqK ?_; intro N hN)
            refine SX.cond (b := true) rfl (fun hb => ?_) (fun hb => ?_)
            · repeat (refine SX.seqK ?_; intro N hN)
              refine SX.draw 5 (by rw [hP]; kernel_rfl) (by kernel_rfl) ?_
              simp only [GA, ↓GB, List.filterMap_cons, eq_self, BEq.rfl, simprocAttr, d_nil, d_cons, d_move, d_assign, d_load, d_slice, d_store, d_sto, d_sam, List.take_succ_cons, List.drop_succ_cons, List.drop_zero, List.take_zero, hnt, hT , hw1, hw2, hown, List.not_mem_nil, not_false_eq_true]
              refine hN _ ?_
              clear hN N
              refine SX.ret (hK _ _ (Fin.res rfl hown ?_))
              simp only [GA, ↓GB, List.filterMap_cons, eq_self, BEq.rfl, simprocAttr, f_a, f_b, f_n, f_c, f_B, f_v, f_g, f_0, f_1, f_2, hT, hwi]
              intro w' hb
              exact ⟨_, rfl, ⟨num, kind, 0, [], s3, es, rfl, by omega, by rw [hT0]; exact .inl rfl⟩, hb⟩
            · cases hb
          · have dL : decide ((s3.length : Int) < (v : Int)) = false := by simp; omega
            have hT1 : NW.takeF s = some (⟨num, kind, 0, s3.take v⟩, s3.drop v) := by
              rw [NW.takeF, h]; simp only []; rw [if_neg (by omega), hkind, hs2, hk2, hnum]; simp [NW.body, h3, hs3]; omega
            repeat (refine SX.seqK ?_; intro N hN)
            refine SX.ops ?_
            simp only [GA, ↓GB, List.filterMap_cons, eq_self, BEq.rfl, simprocAttr, hnt, hT , wl, dL]
            refine hN _ ?_
            clear hN N
            repeat (refine SX.seqK ?_; intro N hN)
            refine SX.cond (b := false) rfl (fun hb => ?_) (fun hb => ?_)
            · cases hb
            refine SX.skip ?_
            simp only [GA, ↓GB, List.filterMap_cons, eq_self, BEq.rfl, simprocAttr, hnt]
            refine hN _ ?_
            clear hN N
            repeat (refine SX.seqK ?_; intro N hN)
            refine SX.ops ?_
            simp only [GA, ↓GB, List.filterMap_cons, eq_self, BEq.rfl, simprocAttr, hnt, hT]
            repeat (refine and_mk (by omega) ?_)
            refine hN _ ?_
            clear hN N
            repeat (refine SX.seqK ?_; intro N hN)
            refine SX.draw 5 (by rw [hP]; kernel_rfl) (by kernel_rfl) ?_
            simp only [GA, ↓GB, List.filterMap_cons, eq_self, BEq.rfl, simprocAttr, d_nil, d_cons, d_move, d_assign, d_load, d_slice, d_store, d_sto, d_sam, List.take_succ_cons, List.drop_succ_cons, List.drop_zero, List.take_zero, hnt, hT , hw1, hw2, hown, List.not_mem_nil, not_false_eq_true]
            repeat (refine and_mk (by omega) ?_)
            refine hN _ ?_
            clear hN N
            refine SX.ret (hK _ _ (Fin.res rfl hown ?_))
            simp only [GA, ↓GB, List.filterMap_cons, eq_self, BEq.rfl, simprocAttr, f_a, f_b, f_n, f_c, f_B, f_v, f_g, f_0, f_1, f_2, hT, hwi]
            intro w' hb
            refine ⟨_, rfl, ⟨num, kind, 0, s3.take v, s3.drop v, .nilIface, ?_, by rw [List.length_drop]; omega, by rw [hT1]; exact ⟨rfl, by simp [hk2], rfl, rfl, rfl, rfl⟩⟩, hb⟩
            rw [show List.take (s3.length - v) (List.drop v s3) = s3.drop v from List.take_of_length_le (by simp)]; simp
      have k2 : ((kind : Int) == 2) = false := by simp; omega
      have hT0 : NW.takeF s = none := by
        rw [NW.takeF, h]; simp only []; rw [if_neg (by omega), hkind, hs2]; simp [NW.body, hk0, hk1, hk2, hk5]
      repeat (refine SX.seqK ?_; intro N hN)
      refine SX.ops ?_
      simp only [GA, ↓GB, List.filterMap_cons, eq_self, BEq.rfl, simprocAttr, hnt, hT , k0, k1, k5]
      refine hN _ ?_
      clear hN N
      repeat (refine SX.seqK ?_; intro N hN)
      refine SX.ops ?_
      simp only [GA, ↓GB, List.filterMap_cons, eq_self, BEq.rfl, simprocAttr, hnt, hT]
      refine hN _ ?_
      clear hN N
      repeat (refine SX.seqK ?_; intro N hN)
      refine SX.ops ?_
      simp only [GA, ↓GB, List.filterMap_cons, eq_self, BEq.rfl, simprocAttr, hnt, hT , k0, k2]
      refine hN _ ?_
      clear hN N
      repeat (refine SX.seqK ?_; intro N hN)
      refine SX.cond (b := false) rfl (fun hb => ?_) (fun hb => ?_)
      · cases hb
      refine SX.skip ?_
      simp only [GA, ↓GB, List.filterMap_cons, eq_self, BEq.rfl, simprocAttr, hnt]
      refine hN _ ?_
      clear hN N
      refine SX.seqK ?_; intro N hN
      refine SX.block ?_
      repeat (refine SX.seqK ?_; intro N hN)
      refine SX.ops ?_
      simp only [GA, ↓GB, List.filterMap_cons, eq_self, BEq.rfl, simprocAttr, hnt, hT]
      refine hN _ ?_
      clear hN N
      repeat (refine SX.seqK ?_; intro N hN)
      refine SX.cond (b := true) rfl (fun hb => ?_) (fun hb => ?_)
      · repeat (refine SX.seqK ?_; intro N hN)
        refine SX.draw 5 (by rw [hP]; kernel_rfl) (by kernel_rfl) ?_
        simp only [GA, ↓GB, List.filterMap_cons, eq_self, BEq.rfl, simprocAttr, d_nil, d_cons, d_move, d_assign, d_load, d_slice, d_store, d_sto, d_sam, List.take_succ_cons, List.drop_succ_cons, List.drop_zero, List.take_zero, hnt, hT , hw1, hw2, hown, List.not_mem_nil, not_false_eq_true]
        refine hN _ ?_
        clear hN N
        refine SX.ret (hK _ _ (Fin.res rfl hown ?_))
        simp only [GA, ↓GB, List.filterMap_cons, eq_self, BEq.rfl, simprocAttr, f_a, f_b, f_n, f_c, f_B, f_v, f_g, f_0, f_1, f_2, hT, hwi]
        intro w' hb
        exact ⟨_, rfl, ⟨num, kind, 0, [], s2, ew, rfl, by omega, by rw [hT0]; exact .inr rfl⟩, hb⟩
      · cases hb
end Go.Proofs.YtbdacbcpniegiaaDoor
namespace Go.Proofs.YtbdacbcpniegiaaDoor
open Go Go.RowKit Go.Shelf Go.Proofs
open Go.Sx (B)
set_option maxHeartbeats 4000000
set_option maxRecDepth 100000
set_option linter.unusedSimpArgs false
set_option linter.unusedVariables false
attribute [local go_sem] Oper.semAt_some
inductive It where
  | f (x : NW.Fld)
  | bad (num kind : Int) (n : Nat) (fs : List UInt8) (p : Int) (short : Bool)
structure Errs (w : World) (a0 a1 : Addr) : Prop where
  c0 : w.cell? ⟨2, 0, none⟩ = some (.iface 253 (.pointer (some a0)))
  c1 : w.cell? ⟨3, 0, none⟩ = some (.iface 253 (.pointer (some a1)))
  ne : a0 ≠ a1
  h0 : ∃ cs t, w.heap[a0.block]? = some (.cells cs t (0, 0))
  h1 : ∃ cs t, w.heap[a1.block]? = some (.cells cs t (0, 0))
theorem Errs.below {w w' : World} {a0 a1 : Addr} (h : Errs w a0 a1) (hb : Below w.heap.size w w') : Errs w' a0 a1 := by
  obtain ⟨c0, t0, h0⟩ := h.h0
  obtain ⟨c1, t1, h1⟩ := h.h1
  refine ⟨?_, ?_, h.ne, ⟨c0, t0, ?_⟩, ⟨c1, t1, ?_⟩⟩
  · rw [hb.cell (p := ⟨2, 0, none⟩) (World.block_lt_of_cell? w _ h.c0)]; exact h.c0
  · rw [hb.cell (p := ⟨3, 0, none⟩) (World.block_lt_of_cell? w _ h.c1)]; exact h.c1
  · rw [hb.block _ (Array.getElem?_eq_some_iff.1 h0).1]; exact h0
  · rw [hb.block _ (Array.getElem?_eq_some_iff.1 h1).1]; exact h1
theorem Errs.wire {w : World} {a0 a1 : Addr} (h : Errs w a0 a1) : Wire w (.iface 253 (.pointer (some a0))) (.iface 253 (.pointer (some a1))) := ⟨h.c0, h.c1, rfl, rfl⟩
def It.encs (a0 a1 : Addr) : It → Array Value
  | .f x => #[.agg #[.int .i64 x.num, .int .i64 x.kind, .int .u64 x.n, .string (B x.s)], .nilIface]
  | .bad num kind n fs p short => #[.agg #[.int .i64 num, .int .i64 kind, .int .u64 n, .string (B fs)], .iface 229 (.agg #[.int .i64 p, .iface 253 (.pointer (some (if short then a0 else a1)))])]
def It.Ok (m : Nat) : It → Prop
  | .f x => x.s.length ≤ m
  | .bad .. => True
theorem takeF_slen {p : List UInt8} {f : NW.Fld} {r : List UInt8} (h : NW.takeF p = some (f, r)) : f.s.length ≤ p.length := by
  unfold NW.takeF at h
  split at h
  · cases h
  · rename_i tag z hr
    split at h
    · cases h
    · split at h
      · cases h
      · rename_i n size r' hb
        split at h
        · cases h
          have := NW.body_len hb
          simp only [List.length_take, List.length_drop] at this ⊢
          omega
        · cases h
structure Stab (b : Nat) (j : World → Prop) : Prop where
  below : ∀ W W', j W → Below W.heap.size W W' → j W'
  cell : ∀ W v, j W → j (W.setCell ⟨b, 0, none⟩ v)
theorem cell_of_heap {W : World} {b : Nat} {v : Value} {t : TypeId} {r : Nat × Nat} (h : W.heap[b]? = some (.cells #[v] t r)) : W.cell? ⟨b, 0, none⟩ = some v := by
  rw [cell_of_row W b 0 #[v] t r h]; rfl
theorem frozen_of_heap {W : World} {b : Nat} {cs : Array Value} {t : TypeId} (h : W.heap[b]? = some (.cells cs t (0, 0))) : W.frozen? ⟨b, 0, none⟩ = false := by
  simp [World.frozen?, h]
theorem setCell_one {W : World} {b : Nat} {u v : Value} {t : TypeId} (h : W.heap[b]? = some (.cells #[u] t (0, 0))) : (W.setCell ⟨b, 0, none⟩ v).heap[b]? = some (.cells #[v] t (0, 0)) := by
  simp only [World.setCell, Array.getElem?_modify, h]; simp
def leftS (b : Nat) (W : World) : Nat := match W.cell? ⟨b, 0, none⟩ with | some (.string s) => s.size | _ => 0
theorem fields1_any (w0 : World) (a0 a1 : Addr) (hE : Errs w0 a0 a1) (s0 : List UInt8) (hs : s0.length ≤ 1152921504606846976) (l b n : Nat) (hb : w0.heap.size ≤ b) (J Jx : List It → World → Prop)
    (hJ : ∀ pre, Stab b (J pre)) (hJw : ∀ pre W, J pre W → Below w0.heap.size w0 W)
    (hY : ∀ pre x W, J pre W → pre.length < s0.length → It.Ok s0.length x → YieldAt Fence.wide (n - 1) Tryd.prog l (It.encs a0 a1 x) W fun e W' => (e = .returned (.bool true) ∧ J (pre ++ [x]) W' ∧ W'.heap[b]? = W.heap[b]?) ∨ (e = .returned (.bool false) ∧ Jx (pre ++ [x]) W'))
    (W : World) (hc : W.heap[b]? = some (.cells #[.string (B s0)] 9 (0, 0))) (h0 : J [] W) :
    CallsIn Fence.wide n Tryd.prog 163 #[.func (.yield l) #[] #[], .pointer (some ⟨b, 0, none⟩)] W fun e W' => (∃ v, e = .returned v) ∧
      ((∃ fs, NW.parse s0 = some fs ∧ J (fs.map It.f) W') ∨ (NW.parse s0 = none ∧ ∃ pre nm k nn fs p sh, J (pre ++ [It.bad nm k nn fs p sh]) W') ∨ ∃ pre x, Jx (pre ++ [x]) W' ∧ (NW.parse s0 = none ∨ ∃ f, x = .f f)) := by
  refine callsIn_of_wp Tryd.func163 rfl trivial ?_ rfl
  simp only [Tryd.ntmps163, List.size_toArray, List.length_cons, List.length_nil, Nat.reduceAdd, Nat.reduceSub, Array.replicate_succ, Array.replicate_zero, List.push_toArray, List.append_toArray, List.nil_append, List.cons_append]
  have hcc := cell_of_heap hc
  gi_wp2
  gi_loopw [4] (fun q wr => ∃ (pre : List NW.Fld) (rest : List UInt8), NW.parse s0 = (NW.parse rest).map (pre ++ ·) ∧ wr.heap[b]? = some (.cells #[.string (B rest)] 9 (0, 0)) ∧ J (pre.map It.f) wr ∧ pre.length + rest.length ≤ s0.length) (fun q wr => leftS b wr)
  case atStart => exact ⟨[], s0, by simp, hc, h0, by simp⟩
  case round =>
    obtain ⟨pre, rest, hp, hcr, hJr, hlr⟩ := hrel
    have hcc := cell_of_heap hcr
    have hE' := hE.below (hJw _ _ hJr)
    by_cases he : rest = []
    · subst he
      gi_wp2
      · exact absurd (show (!(B []).toList.isEmpty) = true by assumption) (by rw [Go.Sx.B_toList]; decide)
      · go_end0
        exact ⟨⟨_, rfl⟩, .inl ⟨pre, by rw [hp, NW.parse_nil]; simp, hJr⟩⟩
    · have hpos : (pre.map It.f).length < s0.length := by rw [List.length_map]; have := List.length_pos_iff.2 he; omega
      have hT := take_any rest (by omega) wr _ _ hE'.wire
      have hne : (B rest).toList.isEmpty = false := by rw [Go.Sx.B_toList]; cases rest with | nil => exact absurd rfl he | cons _ _ => rfl
      cases ht : NW.takeF rest with
      | none =>
        have hP0 : NW.parse s0 = none := by rw [hp, NW.parse_none he ht]; rfl
        gi_wp2_with (refine ⟨trivial, fun h => (by cases h), ?_⟩; refine (callsIn_wide.2 hT).mono ?_; rintro e W2 ⟨v, rfl, ⟨num, kind, nn, fs, r, ev, rfl, hrl, hm⟩, hb2⟩; rw [ht] at hm; have hcc2 : W2.cell? ⟨b, 0, none⟩ = some (.string (B rest)) := (hb2.cell (p := ⟨b, 0, none⟩) (World.block_lt_of_cell? wr _ hcc)).trans hcc; have hlt2 := World.block_lt_of_cell? W2 _ hcc2; have hJ3 := (hJ (pre.map It.f)).below _ _ ((hJ _).below _ _ hJr hb2) ((Below.refl W2.heap.size W2).alloc (Nat.le_refl _) (Obj.cells #[Value.int IntKind.i64 num, Value.int IntKind.i64 kind, Value.int IntKind.u64 ↑nn, Value.string (B fs)] 143)); rcases hm with rfl | rfl; (focus obtain ⟨fn, tmps, assign, body, hy, hR⟩ := hY _ (It.bad num kind nn fs (wrap64 (((B s0).size : Int) - ((B rest).size : Int))) true) _ hJ3 hpos trivial; dsimp only [It.encs] at hy; simp only [if_true] at hy); rotate_left; (focus obtain ⟨fn, tmps, assign, body, hy, hR⟩ := hY _ (It.bad num kind nn fs (wrap64 (((B s0).size : Int) - ((B rest).size : Int))) false) _ hJ3 hpos trivial; dsimp only [It.encs] at hy; simp only [Bool.false_eq_true, if_false] at hy))
        all_goals (refine ⟨fun h => (by cases h), hR.mono ?_⟩; rintro e W' (⟨rfl, hJ', hk⟩ | ⟨rfl, hJx'⟩))
        all_goals (gi_wp2; refine bodyPost_ret (results_none rfl _ _ _) rfl ?_)
        all_goals first
          | exact ⟨⟨_, rfl⟩, .inr (.inl ⟨hP0, _, _, _, _, _, _, _, hJ'⟩)⟩
          | exact ⟨⟨_, rfl⟩, .inr (.inr ⟨_, _, hJx', .inl hP0⟩)⟩
      | some fr =>
        obtain ⟨f, r'⟩ := fr
        have hP1 := NW.parse_some ht
        have hl := NW.takeF_len ht
        have hfl := takeF_slen ht
        gi_wp2_with (refine ⟨trivial, fun h => (by cases h), ?_⟩; refine (callsIn_wide.2 hT).mono ?_; rintro e W2 ⟨v, rfl, ⟨num, kind, nn, fs, r, ev, rfl, hrl, hm⟩, hb2⟩; rw [ht] at hm; have hcc2 : W2.cell? ⟨b, 0, none⟩ = some (.string (B rest)) := (hb2.cell (p := ⟨b, 0, none⟩) (World.block_lt_of_cell? wr _ hcc)).trans hcc; have hlt2 := World.block_lt_of_cell? W2 _ hcc2; obtain ⟨rfl, rfl, rfl, rfl, rfl, rfl⟩ := hm; have hJ3 := (hJ (pre.map It.f)).below _ _ ((hJ _).below _ _ hJr hb2) ((Below.refl W2.heap.size W2).alloc (Nat.le_refl _) (Obj.cells #[Value.int IntKind.i64 ↑f.num, Value.int IntKind.i64 ↑f.kind, Value.int IntKind.u64 ↑f.n, Value.string (B f.s)] 143)); obtain ⟨fn, tmps, assign, body, hy, hR⟩ := hY _ (It.f f) _ hJ3 hpos (show f.s.length ≤ s0.length by omega); dsimp only [It.encs] at hy)
        refine ⟨fun h => (by cases h), hR.mono ?_⟩
        rintro e W' (⟨rfl, hJ', hk⟩ | ⟨rfl, hJx'⟩)
        · have hc3 : W'.heap[b]? = some (.cells #[.string (B rest)] 9 (0, 0)) := by
            rw [hk, Below.heap_alloc _ _ _ hlt2, hb2.block _ (Array.getElem?_eq_some_iff.1 hcr).1]; exact hcr
          have hcc3 := cell_of_heap hc3
          have hf3 := frozen_of_heap hc3
          have hs3 := setCell_one (v := .string (B r)) hc3
          have hl1 := cell_of_heap hs3
          gi_wp2
          refine ⟨⟨pre ++ [f], r, ?_, hs3, ?_, by simp; omega⟩, ?_⟩
          · rw [hp, hP1]; cases NW.parse r <;> simp
          · rw [List.map_append]; exact (hJ _).cell _ _ hJ'
          · unfold leftS
            rw [hl1, hcc]
            show (B r).size < (B rest).size
            rw [Go.Sx.B_size, Go.Sx.B_size]; omega
        · gi_wp2
          refine bodyPost_ret (results_none rfl _ _ _) rfl ?_
          exact ⟨⟨_, rfl⟩, .inr (.inr ⟨_, _, hJx', .inr ⟨f, rfl⟩⟩)⟩
end Go.Proofs.YtbdacbcpniegiaaDoor
namespace Go.Proofs.YtbdacbcpniegiaaDoor
open Go Go.RowKit Go.Shelf Go.Proofs
open Go.Sx (B)
set_option maxHeartbeats 4000000
set_option maxRecDepth 100000
set_option linter.unusedSimpArgs false
set_option linter.unusedVariables false
structure StabL (B b : Nat) (j : World → Prop) : Prop where
  stab : Stab b j
  put : ∀ W k o o', B ≤ k → W.heap[k]? = some o → o.isCells = false → j W → j (W.putObj k o')
def postR {α : Type} (b : Nat) (I Ix : List α → World → Prop) (xs : List α) (W : World) : Exit → Act → World → Prop
  | .normal, _, W' => KeepsOthers W W' ∧ W'.heap[b]? = W.heap[b]? ∧ I xs W'
  | .ret, _, W' => KeepsOthers W W' ∧ Ix xs W'
  | _, _, _ => False
theorem wp_rangeS {α : Type} {n : Nat} {P : Program} {g : Operand} {ps : Array Tmp} {assign body : Code} {Q : Exit → Act → World → Prop} {a : Act} {w : World} {gf b : Nat} {lb : Array Value}
    (hg : a.eval g = .func (.func gf) #[] lb) (eg : ∀ args w, (callFunc gf args).run P w = .ok (.enter gf args) w) {encs : α → Array Value} (hps : ∀ x, (encs x).size = ps.size) (hb : b < w.heap.size)
    (I Ix : List α → World → Prop) (hI : ∀ pre, StabL w.heap.size b (I pre)) (hIx : ∀ pre, StabL w.heap.size b (Ix pre)) (h0 : I [] w) {S Sp : List α → Prop} {N : Nat} {G : α → Prop}
    (hit : ∀ (l : Nat) (J Jx : List α → World → Prop), (∀ pre, Stab b (J pre)) → (∀ pre W, J pre W → I pre W) →
      (∀ pre x W, J pre W → pre.length < N → G x → YieldAt Fence.wide (n - 1 - 1) P l (encs x) W fun e W' => (e = .returned (.bool true) ∧ J (pre ++ [x]) W' ∧ W'.heap[b]? = W.heap[b]?) ∨ (e = .returned (.bool false) ∧ Jx (pre ++ [x]) W')) →
      ∀ W, W.heap[b]? = w.heap[b]? → J [] W → CallsIn Fence.wide (n - 1) P gf (#[.func (.yield l) #[] #[]] ++ lb) W fun e W' => (∃ v, e = .returned v) ∧ ((∃ xs, S xs ∧ J xs W') ∨ ∃ xs, Sp xs ∧ Jx xs W'))
    (hround : ∀ (l : Nat) (pre : List α) (x : α) (W : World), I pre W → pre.length < N → G x → w.heap.size ≤ l → (∃ o : Obj, W.heap[l]? = some o ∧ o.isCells = false) → assign.wpIn (Fence.wide.inRound l) (n - 1 - 1) P
      (Exit.then (fun a₁ W1 => Below W.heap.size W W1 ∧ ∀ W2, W2.heap.size = W1.heap.size → (∀ k, k ≠ l → W2.heap[k]? = W1.heap[k]?) → I pre W2 → body.wpIn (Fence.wide.inRound l) (n - 1 - 1) P (postR b I Ix (pre ++ [x]) W2) a₁ W2) (fun _ _ _ => False))
      { tmps := (ps.zip (encs x)).foldl (fun t (p, v) => t.setIfInBounds p v) a.tmps, defers := [] } W)
    (hdone : ∀ xs W, S xs → I xs W → W.heap[w.heap.size]? = some (.deferred (some [])) → Q .normal { a with defers := { target := .collected w.heap.size, args := #[] } :: a.defers } W)
    (hstop : ∀ xs W, Sp xs → Ix xs W → W.heap[w.heap.size]? = some (.deferred (some [])) → Q .ret { a with defers := { target := .collected w.heap.size, args := #[] } :: a.defers } W) :
    (Code.rangeFunc g ps assign body).wpIn Fence.wide n P Q a w := by
  refine wpIn_rangeFunc fun fn _ => ?_
  obtain ⟨rec, hrec⟩ : ∃ rec : LoopState → Option Code → Loop, rec = fun st pe => { state := st, pending := pe, fn, tmps := a.tmps, params := ps, assign, body, defers := w.heap.size } := ⟨_, rfl⟩
  obtain ⟨W1, hW1⟩ : ∃ W1, (w.alloc (.deferred (some []))).alloc (.loop (rec .ready none)) = W1 := ⟨_, rfl⟩
  have hbel : Below w.heap.size w W1 := by rw [← hW1]; exact ((Below.refl _ w).alloc (Nat.le_refl _) _).alloc (by simp) _
  have hrec1 : W1.heap[w.heap.size + 1]? = some (.loop (rec .ready none)) := by
    have := World.alloc_heap_new (w.alloc (.deferred (some []))) (.loop (rec .ready none))
    rw [World.size_alloc] at this
    rw [← hW1]; exact this
  have hdef1 : W1.heap[w.heap.size]? = some (.deferred (some [])) := by rw [← hW1, Below.heap_alloc _ _ _ (by simp)]; exact World.alloc_heap_new w _
  have hstab : ∀ (j : World → Prop) (o1 o2 : Obj), Stab b j → Stab b (fun W => j W ∧ W.heap[w.heap.size + 1]? = some o1 ∧ W.heap[w.heap.size]? = some o2) := fun j o1 o2 hj =>
    ⟨fun W W' h hB => ⟨hj.below W W' h.1 hB, (hB.block _ (Array.getElem?_eq_some_iff.1 h.2.1).1).trans h.2.1, (hB.block _ (Array.getElem?_eq_some_iff.1 h.2.2).1).trans h.2.2⟩,
      fun W v h => ⟨hj.cell W v h.1, (Below.heap_setCell W ⟨b, 0, none⟩ v _ (by show _ ≠ b; omega)).trans h.2.1, (Below.heap_setCell W ⟨b, 0, none⟩ v _ (by show _ ≠ b; omega)).trans h.2.2⟩⟩
  refine ⟨w.heap.size + 1, [{ target := .collected w.heap.size, args := #[] }], W1, { target := .fn (.func gf) lb, args := #[.func (.yield (w.heap.size + 1)) #[] #[]] }, W1, gf, #[.func (.yield (w.heap.size + 1)) #[] #[]] ++ lb, W1, ?_, ?_, (fun _ _ => trivial), ?_, (fun h => by cases h), ?_⟩
  · rw [← hW1, hrec]; exact run_enterLoop_outer _ _ _ _ _
  · simp only [resolve, hg]
    simp [go_sem]
  · simp [invoke, go_sem, eg]
  refine (hit (w.heap.size + 1) (fun pre W => I pre W ∧ W.heap[w.heap.size + 1]? = some (.loop (rec .ready none)) ∧ W.heap[w.heap.size]? = some (.deferred (some [])))
    (fun pre W => Ix pre W ∧ W.heap[w.heap.size + 1]? = some (.loop (rec .done (some .ret))) ∧ W.heap[w.heap.size]? = some (.deferred (some [])))
    (fun pre => hstab _ _ _ (hI pre).stab) (fun pre W h => h.1) (fun pre x W h hN hG => ?_) W1 (hbel.block _ hb) ⟨(hI []).stab.below w W1 h0 hbel, hrec1, hdef1⟩).mono ?_
  · obtain ⟨hi, hl, hd⟩ := h
    have hlt : w.heap.size + 1 < W.heap.size := (Array.getElem?_eq_some_iff.1 hl).1
    have hy := run_yield (P := P) (args := encs x) hl (by rw [hrec]; exact hps x)
    rw [hrec] at hy
    refine ⟨fn, _, assign, body, hy, roundIn_of_wpIn trivial (wpIn_mono (hround _ pre x W hi hN hG (by omega) ⟨_, hl, rfl⟩) ?_)⟩
    intro e a1 W2 he
    cases e with
    | normal =>
      obtain ⟨hB, hbody⟩ := he
      have hl2 : W2.heap[w.heap.size + 1]? = some (.loop (rec .ready none)) := (hB.block _ hlt).trans hl
      have hd2 : W2.heap[w.heap.size]? = some (.deferred (some [])) := (hB.block _ (by omega)).trans hd
      have hlt2 := (Array.getElem?_eq_some_iff.1 hl2).1
      refine ⟨_, run_beginRound hl2 (by rw [hrec]), ?_⟩
      obtain ⟨W3, hW3⟩ : ∃ W3, W2.putObj (w.heap.size + 1) (.loop { rec .ready none with state := .busy }) = W3 := ⟨_, rfl⟩
      have hl3 : W3.heap[w.heap.size + 1]? = some (.loop { rec .ready none with state := .busy }) := by rw [← hW3]; exact World.putObj_heap_same hlt2
      have ho3 : ∀ k, k ≠ w.heap.size + 1 → W3.heap[k]? = W2.heap[k]? := fun k hk => by rw [← hW3]; exact World.putObj_heap_other hk
      have hi3 : I pre W3 := by rw [← hW3]; exact (hI pre).put _ _ _ _ (by omega) hl2 rfl ((hI pre).stab.below _ _ hi hB)
      rw [hW3]
      refine wpIn_mono (hbody W3 (by rw [← hW3]; simp) ho3 hi3) ?_
      have fin : ∀ (jump : Option Code) (W4 : World), KeepsOthers W3 W4 →
          (Instr.endRound (w.heap.size + 1) jump).run P W4 = .ok (.bool jump.isNone) (W4.putObj (w.heap.size + 1) (.loop (rec (if jump.isNone then .ready else .done) jump))) ∧
          W4.heap[w.heap.size + 1]? = some (.loop { rec .ready none with state := .busy }) ∧
          (W4.putObj (w.heap.size + 1) (.loop (rec (if jump.isNone then .ready else .done) jump))).heap[w.heap.size + 1]? = some (.loop (rec (if jump.isNone then .ready else .done) jump)) ∧
          (W4.putObj (w.heap.size + 1) (.loop (rec (if jump.isNone then .ready else .done) jump))).heap[w.heap.size]? = some (.deferred (some [])) := fun jump W4 hk => by
        have hl4 := hk.same _ _ hl3 rfl
        have hd4 := hk.same _ _ ((ho3 _ (by omega)).trans hd2) rfl
        have := run_endRound (P := P) jump hl4
        rw [hrec] at this ⊢
        exact ⟨this, by rw [hrec] at hl4; exact hl4, World.putObj_heap_same (Array.getElem?_eq_some_iff.1 hl4).1, (World.putObj_heap_other (by omega)).trans hd4⟩
      rintro e a4 W4 hp
      cases e with
      | normal =>
        obtain ⟨hk, hb4, hi4⟩ := hp
        obtain ⟨hr, hl4, hl5, hd5⟩ := fin none W4 hk
        refine ⟨_, _, hr, .inl ⟨rfl, ⟨(hI _).put _ _ _ _ (by omega) hl4 rfl hi4, hl5, hd5⟩, ?_⟩⟩
        rw [World.putObj_heap_other (by omega), hb4, ho3 _ (by omega)]
        exact hB.block _ (by omega)
      | ret =>
        obtain ⟨hk, hi4⟩ := hp
        obtain ⟨hr, hl4, hl5, hd5⟩ := fin (some .ret) W4 hk
        exact ⟨_, _, hr, .inr ⟨rfl, (hIx _).put _ _ _ _ (by omega) hl4 rfl hi4, hl5, hd5⟩⟩
      | exit id => exact hp.elim
      | goto t => exact hp.elim
      | panic ch => exact hp.elim
      | outgrown => exact hp.elim
    | ret => exact he.elim
    | exit id => exact he.elim
    | goto t => exact he.elim
    | panic ch => exact he.elim
    | outgrown => exact he.elim
  · rintro e W2 ⟨⟨v, rfl⟩, (⟨xs, hS, hi, hl, hd⟩ | ⟨xs, hS, hi, hl, hd⟩)⟩
    · have := run_endLoop (P := P) hl (by rw [hrec]; simp)
      rw [hrec] at this
      exact ⟨none, _, this, hdone xs _ hS ((hI _).put _ _ _ _ (by omega) hl rfl hi) ((World.putObj_heap_other (by omega)).trans hd)⟩
    · have := run_endLoop (P := P) hl (by rw [hrec]; simp)
      rw [hrec] at this
      exact ⟨some .ret, _, this, wpIn_ret (hstop xs _ hS ((hIx _).put _ _ _ _ (by omega) hl rfl hi) ((World.putObj_heap_other (by omega)).trans hd))⟩
end Go.Proofs.YtbdacbcpniegiaaDoor
namespace Go.Proofs.YtbdacbcpniegiaaDoor
open Go Go.RowKit Go.Shelf Go.Proofs
open Go.Sx (B)
set_option maxHeartbeats 4000000
set_option maxRecDepth 100000
set_option linter.unusedSimpArgs false
set_option linter.unusedVariables false
attribute [local go_sem] Oper.semAt_some
def cloneRen : Ren := ⟨fun | 25 => 165 | n => n, fun | 37 => 58 | 47 => 192 | n => n, fun n => n⟩
theorem layClone : LaysPu.n25 Tryd.prog cloneRen := {
  mixed := by kernel_rfl, f25 := Tryd.func165.trans (congrArg some (by kernel_rfl)),
  t0 := Tryd.underlying0, a0 := Tryd.isAgg0, z0 := Tryd.sizeOf0, v0 := Tryd.zeroValue0, i0 := by kernel_rfl,
  t3 := Tryd.underlying3, a3 := Tryd.isAgg3, z3 := Tryd.sizeOf3, v3 := Tryd.zeroValue3, i3 := by kernel_rfl,
  t4 := Tryd.underlying4, a4 := Tryd.isAgg4, z4 := Tryd.sizeOf4, v4 := Tryd.zeroValue4, i4 := by kernel_rfl,
  t5 := Tryd.underlying5, a5 := Tryd.isAgg5, z5 := Tryd.sizeOf5, v5 := Tryd.zeroValue5, i5 := by kernel_rfl,
  t9 := Tryd.underlying9, a9 := Tryd.isAgg9, z9 := Tryd.sizeOf9, v9 := Tryd.zeroValue9, i9 := by kernel_rfl,
  t37 := Tryd.underlying58, a37 := Tryd.isAgg58, z37 := Tryd.sizeOf58, v37 := Tryd.zeroValue58, i37 := by kernel_rfl,
  t47 := Tryd.underlying192, a47 := Tryd.isAgg192, z47 := Tryd.sizeOf192, v47 := Tryd.zeroValue192, i47 := by kernel_rfl }
theorem clone_any (s : ByteArray) (hs : s.size ≤ 281474976710656) (w : World) : Calls Tryd.prog 143 #[.string s] w fun e w' => e = .returned (.string s) ∧ Below w.heap.size w w' := by
  go_enter Tryd.func143, Tryd.ntmps143
  go_wp2_with (go_at_call 165; refine (AnyPu.stringslite_Clone layClone s _ hs).mono ?_; rintro e w' ⟨rfl, hb⟩)
  go_ret
  exact ⟨rfl, hb⟩
theorem fields_any (s : ByteArray) (w : World) : Calls Tryd.prog 142 #[.string s] w fun e w' => e = .returned (.func (.func 163) #[] #[.pointer (some ⟨w.heap.size, 0, none⟩)]) ∧ w' = w.alloc (.cells #[.string s] 9) := by
  go_enter Tryd.func142, Tryd.ntmps142
  go_wp2
  go_ret
  exact ⟨rfl, rfl⟩
end Go.Proofs.YtbdacbcpniegiaaDoor
namespace Go.Proofs.YtbdacbcpniegiaaDoor
open Go Go.RowKit Go.Shelf Go.Proofs
open Go.Sx (B)
set_option maxHeartbeats 1000000
set_option maxRecDepth 100000
set_option linter.unusedSimpArgs false
set_option linter.unusedVariables false
attribute [local go_sem] Oper.semAt_some
def fcells (f : NW.Fld) : List Value := [.int .i64 f.num, .int .i64 f.kind, .int .u64 f.n, .string (B f.s)]
def flds (l : List NW.Fld) : List Value := l.flatMap fcells
theorem flds_append (a b : List NW.Fld) : flds (a ++ b) = flds a ++ flds b := by simp [flds]
theorem ownsRow_heap {W W' : World} {n₀ sz n : Nat} {e : TypeId} {v : Value} {xs : List Value} (h : W.ownsRow n₀ e sz v n xs) (hg : ∀ (g : Nat) (o : Obj), n₀ ≤ g → W.heap[g]? = some o → o.isCells = true → W'.heap[g]? = W.heap[g]?) : W'.ownsRow n₀ e sz v n xs := by
  obtain ⟨h1, h2⟩ := h
  refine ⟨h1, ?_⟩
  rcases h2 with h2 | ⟨g, cap, cur, e1, hle, hh, rest⟩
  · exact .inl h2
  · exact .inr ⟨g, cap, cur, e1, hle, by rw [hg g _ hle hh rfl]; exact hh, rest⟩
theorem ownsRow_not {W : World} {n₀ sz n k : Nat} {e : TypeId} {v : Value} {xs : List Value} (h : W.ownsRow n₀ e sz v n xs) (hk : k < n₀) : v.ownBlock ≠ some k := by
  obtain ⟨h1, h2⟩ := h
  rcases h2 with ⟨rfl, _⟩ | ⟨g, cap, cur, rfl, hle, hh, rest⟩
  · simp [Value.ownBlock]
  · simp [Value.ownBlock]; omega
theorem keeps_below {W W' : World} (h : Below W.heap.size W W') : KeepsOthers W W' := ⟨h.size, fun k o hk _ => (h.block k (Array.getElem?_eq_some_iff.1 hk).1).trans hk⟩
structure PI (w : World) (n : Nat) (W : World) : Prop where
  r2 : W.heap[n]? = some (.cells #[.slice none 0 0] 171 (0, 0))
  r3 : W.heap[n + 1]? = some (.cells #[.bool false] 4 (0, 0))
  low : Below n w W
structure PO (w : World) (n : Nat) (fs : List NW.Fld) (W : World) : Prop extends PI w n W where
  out : ∃ v, W.heap[n + 2]? = some (.cells #[v] 171 (0, 0)) ∧ W.ownsRow (n + 4) 143 4 v fs.length (flds fs)
theorem PI.stab {w : World} {n : Nat} : StabL (n + 4) (n + 3) (PI w n) :=
  ⟨⟨fun W W' h hB => ⟨(hB.block _ (Array.getElem?_eq_some_iff.1 h.r2).1).trans h.r2, (hB.block _ (Array.getElem?_eq_some_iff.1 h.r3).1).trans h.r3, h.low.trans (hB.mono (Nat.le_of_lt (Array.getElem?_eq_some_iff.1 h.r2).1))⟩,
    fun W v h => ⟨(Below.heap_setCell W ⟨n + 3, 0, none⟩ v _ (by show _ ≠ n + 3; omega)).trans h.r2, (Below.heap_setCell W ⟨n + 3, 0, none⟩ v _ (by show _ ≠ n + 3; omega)).trans h.r3, h.low.setCell (p := ⟨n + 3, 0, none⟩) (by show n ≤ n + 3; omega) _⟩⟩,
   fun W k o o' hk ho hc h => ⟨(World.putObj_heap_other (by omega)).trans h.r2, (World.putObj_heap_other (by omega)).trans h.r3, h.low.trans ((Below.refl n W).grown (grownBy_putObj' W k o') (Nat.le_of_lt (Array.getElem?_eq_some_iff.1 h.r2).1) (fun j e => by cases e; omega))⟩⟩
theorem PO.stab {w : World} {n : Nat} {fs : List NW.Fld} : StabL (n + 4) (n + 3) (PO w n fs) :=
  ⟨⟨fun W W' h hB => ⟨PI.stab.stab.below W W' h.toPI hB, by
      obtain ⟨v, h1, h2⟩ := h.out
      exact ⟨v, (hB.block _ (Array.getElem?_eq_some_iff.1 h1).1).trans h1, ownsRow_heap h2 fun g o _ ho _ => hB.block g (Array.getElem?_eq_some_iff.1 ho).1⟩⟩,
    fun W v h => ⟨PI.stab.stab.cell W v h.toPI, by
      obtain ⟨u, h1, h2⟩ := h.out
      exact ⟨u, (Below.heap_setCell W ⟨n + 3, 0, none⟩ v _ (by show _ ≠ n + 3; omega)).trans h1, ownsRow_heap h2 fun g o hg _ _ => Below.heap_setCell W ⟨n + 3, 0, none⟩ v g (by show g ≠ n + 3; omega)⟩⟩⟩,
   fun W k o o' hk ho hc h => ⟨PI.stab.put W k o o' hk ho hc h.toPI, by
      obtain ⟨u, h1, h2⟩ := h.out
      exact ⟨u, (World.putObj_heap_other (by omega)).trans h1, ownsRow_heap h2 fun g ob hg hog hcg => World.putObj_heap_other (fun e => by subst e; rw [ho] at hog; cases hog; rw [hc] at hcg; cases hcg)⟩⟩⟩
theorem frozen_at {W : World} {b o : Nat} {cs : Array Value} {t : TypeId} (h : W.heap[b]? = some (.cells cs t (0, 0))) : W.frozen? ⟨b, o, none⟩ = false := by
  simp [World.frozen?, h]
theorem setCell_row {W : World} {b o : Nat} {v : Value} {cs : Array Value} {t : TypeId} (h : W.heap[b]? = some (.cells cs t (0, 0))) : (W.setCell ⟨b, o, none⟩ v).heap[b]? = some (.cells (cs.setIfInBounds o v) t (0, 0)) := by
  simp only [World.setCell, Array.getElem?_modify, h]; simp
theorem round_end {w W2 W3 w1 : World} {n k : Nat} {u v v' : Value} {o : Obj} {fs : List NW.Fld} {x : NW.Fld} (hPI : PI w n W2) (hv : W2.heap[n + 2]? = some (.cells #[v] 171 (0, 0))) (hk : n + 4 ≤ k) (hk2 : k < W2.heap.size) (hB3 : Below W2.heap.size W2 W3)
    (hrow4 : (W3.setCell ⟨k, 3, none⟩ u).ownsRow (n + 4) 143 4 v fs.length (flds fs)) (hgrow : ((W3.setCell ⟨k, 3, none⟩ u).alloc o).grownBy w1 v.ownBlock) (hown' : w1.ownsRow (n + 4) 143 4 v' (fs.length + 1) (flds fs ++ fcells x)) :
    KeepsOthers W2 (w1.setCell ⟨n + 2, 0, none⟩ v') ∧ (w1.setCell ⟨n + 2, 0, none⟩ v').heap[n + 3]? = W2.heap[n + 3]? ∧ PO w n (fs ++ [x]) (w1.setCell ⟨n + 2, 0, none⟩ v') := by
  have hs3 := hB3.size
  have hh1 : ∀ j, j < n + 4 → w1.heap[j]? = W2.heap[j]? := fun j hj => by
    rw [hgrow.block j (by simp [World.setCell]; omega) (fun e => ownsRow_not hrow4 hj e.symm), Below.heap_alloc _ _ _ (by simp [World.setCell]; omega), Below.heap_setCell _ _ _ _ (by show j ≠ k; omega)]
    exact hB3.block j (by omega)
  have hh : ∀ j, j < n + 4 → j ≠ n + 2 → (w1.setCell ⟨n + 2, 0, none⟩ v').heap[j]? = W2.heap[j]? := fun j hj hj2 => by
    rw [Below.heap_setCell _ _ _ _ (by show j ≠ n + 2; omega)]; exact hh1 j hj
  have hsz1 : W2.heap.size ≤ w1.heap.size := by have := hgrow.size; simp [World.setCell] at this; omega
  refine ⟨?_, hh _ (by omega) (by omega), ⟨(hh n (by omega) (by omega)).trans hPI.r2, (hh (n + 1) (by omega) (by omega)).trans hPI.r3, ?_⟩, v', ?_, ?_⟩
  · refine ((keeps_below hB3).trans ((KeepsOthers.setCell W3 _ _).trans ((KeepsOthers.alloc _ o).trans (KeepsOthers.of_grownBy hgrow ?_)))).trans (KeepsOthers.setCell _ _ _)
    intro j ob ej hj
    obtain ⟨h1, h2⟩ := hrow4
    rcases h2 with ⟨rfl, _⟩ | ⟨g, cap, cur, rfl, hle, hh4, rest⟩
    · simp [Value.ownBlock] at ej
    · simp [Value.ownBlock] at ej
      subst ej
      rw [Below.heap_alloc _ _ _ (Array.getElem?_eq_some_iff.1 hh4).1, hh4] at hj
      cases hj; rfl
  · refine hPI.low.trans ⟨?_, ?_, ?_, ?_, fun j hj => hh j (by omega) (by omega)⟩
    · show w1.os = W2.os
      rw [hgrow.os]; exact hB3.os
    · show w1.tape = W2.tape
      rw [hgrow.tape]; exact hB3.tape
    · show w1.output = W2.output
      rw [hgrow.output]; exact hB3.output
    · simp [World.setCell]; exact hsz1
  · rw [setCell_row (by rw [hh1 _ (by omega)]; exact hv)]; rfl
  · rw [flds_append, List.length_append]
    have e : flds [x] = fcells x := by simp [flds]
    rw [e]
    exact ownsRow_heap hown' fun g ob hg _ _ => Below.heap_setCell _ _ _ _ (by show g ≠ n + 2; omega)
theorem out_kept {W4 w1 : World} {n : Nat} {v : Value} {o X : Obj} {fs : List NW.Fld} (hrow4 : W4.ownsRow (n + 4) 143 4 v fs.length (flds fs)) (hgrow : (W4.alloc o).grownBy w1 v.ownBlock) (hv4 : W4.heap[n + 2]? = some X) : w1.heap[n + 2]? = some X := by
  have hlt := (Array.getElem?_eq_some_iff.1 hv4).1
  rw [hgrow.block _ (by simp; omega) (fun e => ownsRow_not hrow4 (by omega) e.symm), Below.heap_alloc _ _ _ hlt]
  exact hv4
theorem fieldInfo : (Tryd.prog.info? 143).map (fun i => (i.zero, i.size, i.bytes)) = some (some (.agg #[.int .i64 0, .int .i64 0, .int .u64 0, .string ⟨#[]⟩]), 4, 40) := by kernel_rfl
abbrev fobj (x : NW.Fld) : Obj := .cells #[.int .i64 x.num, .int .i64 x.kind, .int .u64 x.n, .string (B x.s)] 143
theorem map_f_inj {a b : List NW.Fld} (h : a.map It.f = b.map It.f) : a = b := by
  induction a generalizing b with
  | nil => cases b with | nil => rfl | cons _ _ => simp at h
  | cons x a ih => cases b with
    | nil => simp at h
    | cons y b => simp at h; rw [h.1, ih h.2]
theorem results_cc {fn : Func} {p q : Tmp} {t u : TypeId} {P : Program} {W : World} {tmps : Array Value} {a b : Addr} {v1 v2 : Value} (h : fn.results = #[.cell p t, .cell q u]) (ha : tmps.getD p undef = .pointer (some a)) (hb : tmps.getD q undef = .pointer (some b))
    (t1 : ∀ w, (isAgg t).run P w = .ok false w) (t2 : ∀ w, (isAgg u).run P w = .ok false w) (h1 : W.cell? a = some v1) (h2 : W.cell? b = some v2) : (results fn tmps).run P W = .ok (.tuple #[v1, v2]) W := by
  have e1 : (do loadVar t (← asAddr (.pointer (some a))) : Sem Value).run P W = .ok v1 W := by simp [asAddr, loadVar, t1, h1]
  have e2 : (do loadVar u (← asAddr (.pointer (some b))) : Sem Value).run P W = .ok v2 W := by simp [asAddr, loadVar, t2, h2]
  rw [Go.Sx.results_eq, h]
  simp [Go.Sx.resF, ha, hb, e1, e2, asAddr, loadVar, t1, t2, h1, h2]
def parseR (n : Nat) (r : Option (List NW.Fld)) (e : Ending) (W' : World) : Prop := match r with
  | none => e = .returned (.tuple #[.slice none 0 0, .bool false])
  | some l => ∃ v, e = .returned (.tuple #[v, .bool true]) ∧ W'.ownsRow (n + 4) 143 4 v l.length (flds l)
theorem ownsRow_slice {W : World} {n₀ sz n : Nat} {e : TypeId} {v : Value} {xs : List Value} (h : W.ownsRow n₀ e sz v n xs) : ∃ q m c, v = .slice q m c := by
  obtain ⟨h1, h2⟩ := h
  rcases h2 with ⟨rfl, _⟩ | ⟨g, cap, cur, rfl, hle, hh, rest⟩
  · exact ⟨_, _, _, rfl⟩
  · exact ⟨_, _, _, rfl⟩
theorem parse_any (s : List UInt8) (hs : s.length ≤ 1099511627776) (w : World) (a0 a1 : Addr) (hE : Errs w a0 a1) : Calls Tryd.prog 109 #[.string (B s)] w fun e W' => Below w.heap.size w W' ∧ parseR w.heap.size (NW.parse s) e W' := by
  refine (callsIn_wide (n := 5)).1 ?_
  refine callsIn_of_wp_marks Tryd.func109 rfl trivial ?_ rfl
  simp only [Tryd.ntmps109, List.size_toArray, List.length_cons, List.length_nil, Nat.reduceAdd, Nat.reduceSub, Array.replicate_succ, Array.replicate_zero, List.push_toArray, List.append_toArray, List.nil_append, List.cons_append]
  gi_wp2_with (refine ⟨trivial, ?_⟩; refine (callsIn_wide.2 (fields_any _ _)).mono ?_; rintro e w' ⟨rfl, rfl⟩)
  obtain ⟨W0, hW0⟩ : ∃ W0, (((w.alloc (.cells #[.slice none 0 0] 171)).alloc (.cells #[.bool false] 4)).alloc (.cells #[.slice none 0 0] 171)).alloc (.cells #[.string (B s)] 9) = W0 := ⟨_, rfl⟩
  have hsz : W0.heap.size = w.heap.size + 4 := by rw [← hW0]; simp
  have hlow : Below w.heap.size w W0 := by rw [← hW0]; exact ((((Below.refl _ w).alloc (Nat.le_refl _) _).alloc (by simp) _).alloc (by simp <;> omega) _).alloc (by simp <;> omega) _
  have hc2 : W0.heap[w.heap.size]? = some (.cells #[.slice none 0 0] 171 (0, 0)) := by rw [← hW0]; rw [Below.heap_alloc _ _ _ (by simp <;> omega), Below.heap_alloc _ _ _ (by simp <;> omega), Below.heap_alloc _ _ _ (by simp)]; exact World.alloc_heap_new w _
  have hc3 : W0.heap[w.heap.size + 1]? = some (.cells #[.bool false] 4 (0, 0)) := by
    rw [← hW0]; rw [Below.heap_alloc _ _ _ (by simp <;> omega), Below.heap_alloc _ _ _ (by simp)]
    have := World.alloc_heap_new (w.alloc (.cells #[.slice none 0 0] 171)) (.cells #[.bool false] 4)
    rw [World.size_alloc] at this; exact this
  have hc4 : W0.heap[w.heap.size + 2]? = some (.cells #[.slice none 0 0] 171 (0, 0)) := by
    rw [← hW0]; rw [Below.heap_alloc _ _ _ (by simp)]
    have := World.alloc_heap_new ((w.alloc (.cells #[.slice none 0 0] 171)).alloc (.cells #[.bool false] 4)) (.cells #[.slice none 0 0] 171)
    rw [World.size_alloc, World.size_alloc] at this; exact this
  have hc5 : W0.heap[w.heap.size + 3]? = some (.cells #[.string (B s)] 9 (0, 0)) := by
    rw [← hW0]
    have := World.alloc_heap_new (((w.alloc (.cells #[.slice none 0 0] 171)).alloc (.cells #[.bool false] 4)).alloc (.cells #[.slice none 0 0] 171)) (.cells #[.string (B s)] 9)
    rw [World.size_alloc, World.size_alloc, World.size_alloc] at this; exact this
  rw [hW0]
  have hst : ∀ pre : List It, StabL W0.heap.size (w.heap.size + 3) (fun W => ∃ fs, pre = fs.map It.f ∧ PO w w.heap.size fs W) := fun pre => by
    rw [hsz]
    exact ⟨⟨fun W W' ⟨fs, e, h⟩ hB => ⟨fs, e, PO.stab.stab.below W W' h hB⟩, fun W v ⟨fs, e, h⟩ => ⟨fs, e, PO.stab.stab.cell W v h⟩⟩, fun W k o o' hk ho hc ⟨fs, e, h⟩ => ⟨fs, e, PO.stab.put W k o o' hk ho hc h⟩⟩
  have hsx : ∀ pre : List It, StabL W0.heap.size (w.heap.size + 3) (fun W => (∃ q x, pre = q ++ [x] ∧ ∀ f, x ≠ It.f f) ∧ PI w w.heap.size W) := fun pre => by
    rw [hsz]
    exact ⟨⟨fun W W' ⟨e, h⟩ hB => ⟨e, PI.stab.stab.below W W' h hB⟩, fun W v ⟨e, h⟩ => ⟨e, PI.stab.stab.cell W v h⟩⟩, fun W k o o' hk ho hc ⟨e, h⟩ => ⟨e, PI.stab.put W k o o' hk ho hc h⟩⟩
  refine wp_rangeS (n := 5) (encs := It.encs a0 a1) (b := w.heap.size + 3) rfl (enters_of Tryd.func163 (by kernel_rfl) rfl) (fun x => by cases x <;> rfl) (by rw [hsz]; omega) (fun pre W => ∃ fs, pre = fs.map It.f ∧ PO w w.heap.size fs W) (fun pre W => (∃ q x, pre = q ++ [x] ∧ ∀ f, x ≠ It.f f) ∧ PI w w.heap.size W)
    hst hsx ⟨[], rfl, ⟨hc2, hc3, hlow⟩, _, hc4, World.ownsRow_nil _ _ _ _⟩
    (S := fun xs => ∃ fs, NW.parse s = some fs ∧ xs = fs.map It.f) (Sp := fun xs => NW.parse s = none ∨ ∃ q f, xs = q ++ [It.f f]) (N := s.length) (G := It.Ok s.length) ?it ?round ?done ?stop
  case it =>
    intro l J Jx hJ hJI hY W hWb h0
    have h0' := hJI _ _ h0
    refine (fields1_any w a0 a1 hE s (by omega) l (w.heap.size + 3) 4 (by omega) J Jx hJ (fun pre W h => ?_) hY W (by rw [hWb]; exact hc5) h0).mono ?_
    · obtain ⟨fs, _, h⟩ := hJI _ _ h
      exact h.low
    · rintro e W' ⟨hv, (⟨fs, h1, h2⟩ | ⟨h1, pre, nm, k, nn, fs, p, sh, h2⟩ | ⟨pre, x, h1, h2⟩)⟩
      · exact ⟨hv, .inl ⟨_, ⟨fs, h1, rfl⟩, h2⟩⟩
      · obtain ⟨fs', h3, _⟩ := hJI _ _ h2
        have : It.bad nm k nn fs p sh ∈ fs'.map It.f := by rw [← h3]; simp
        simp at this
      · refine ⟨hv, .inr ⟨_, ?_, h1⟩⟩
        rcases h2 with h2 | ⟨f, rfl⟩
        · exact .inl h2
        · exact .inr ⟨_, _, rfl⟩
  case round =>
    rintro l pre x W ⟨fs, rfl, hO⟩ hN hG hl ⟨ol, hol, hcl⟩
    rw [hsz] at hl
    have hlW := (Array.getElem?_eq_some_iff.1 hol).1
    cases x with
    | f x =>
      simp only [It.encs]
      gi_wp2
      refine ⟨(Below.refl _ _).alloc (Nat.le_refl _) _, ?_⟩
      rintro W2 hs2 ho2 ⟨fs', he, hO2⟩
      obtain rfl := map_f_inj he
      have hE2 := hE.below hO2.low
      have hg0 := hE2.c0
      have hg1 := hE2.c1
      have hbox2 : W2.heap[W.heap.size]? = some (.cells #[.int .i64 x.num, .int .i64 x.kind, .int .u64 x.n, .string (B x.s)] 143 (0, 0)) := by rw [ho2 _ (by omega)]; exact World.alloc_heap_new W _
      obtain ⟨v, hv0, hrow⟩ := hO.out
      have hv0lt := (Array.getElem?_eq_some_iff.1 hv0).1
      have hW21 : ∀ (j : Nat) (o : Obj), W.heap[j]? = some o → o.isCells = true → W2.heap[j]? = W.heap[j]? := fun j o hj hc => by
        have hjl : j ≠ l := fun e => by subst e; rw [hol] at hj; cases hj; rw [hcl] at hc; cases hc
        rw [ho2 j hjl]; exact Below.heap_alloc _ _ _ (Array.getElem?_eq_some_iff.1 hj).1
      have hv2 := (hW21 _ _ hv0 rfl).trans hv0
      obtain ⟨i0, hi, hz0, hz1, hz2⟩ := info_parts fieldInfo
      have hb0 := cell_of_row W2 W.heap.size 0 _ _ _ hbox2
      have hb1 := cell_of_row W2 W.heap.size 1 _ _ _ hbox2
      have hb2 := cell_of_row W2 W.heap.size 2 _ _ _ hbox2
      have hb3 := cell_of_row W2 W.heap.size 3 _ _ _ hbox2
      have hne2 : ∀ W3 : World, w.heap.size + 2 ≠ (⟨W.heap.size, 3, none⟩ : Addr).block := fun _ => by show w.heap.size + 2 ≠ W.heap.size; omega
      have hgo : ∀ W3, Below W2.heap.size W2 W3 → ∀ (g : Nat) (o : Obj), w.heap.size + 4 ≤ g → W.heap[g]? = some o → o.isCells = true → (W3.setCell ⟨W.heap.size, 3, none⟩ (.string (B x.s))).heap[g]? = W.heap[g]? := fun W3 hB3 g o _ ho hc => by
        have hlt := (Array.getElem?_eq_some_iff.1 ho).1
        rw [Below.heap_setCell _ _ _ _ (by show g ≠ W.heap.size; omega), hB3.block g (by rw [hs2]; simp; omega)]
        exact hW21 g o ho hc
      have hlen : fs.length < s.length := by simpa using hN
      gi_wp2_with (first
        | (refine ⟨trivial, ?_⟩; gi_at_call 126; refine (CallsIn.inRound l (callsIn_wide.2 (is_nil _ _))).mono ?_; rintro e w' ⟨rfl, rfl⟩)
        | (refine ⟨trivial, ?_⟩; gi_at_call 143; refine (CallsIn.inRound l (callsIn_wide.2 (clone_any _ ?_ _))).mono ?_; rotate_left; rintro e W3 ⟨rfl, hB3⟩; have hbox3 := (hB3.block _ (Array.getElem?_eq_some_iff.1 hbox2).1).trans hbox2; have hv3 := (hB3.block _ (Array.getElem?_eq_some_iff.1 hv2).1).trans hv2; have hf3 := frozen_at (o := 3) hbox3; have hb33 := cell_of_row W3 W.heap.size 3 _ _ _ hbox3; have hbox4 := setCell_row (o := 3) (v := .string (B x.s)) hbox3; have hv4 := (Below.heap_setCell W3 ⟨W.heap.size, 3, none⟩ (.string (B x.s)) (w.heap.size + 2) (hne2 W3)).trans hv3; have hb40 := cell_of_row _ W.heap.size 0 _ _ _ hbox4; have hb41 := cell_of_row _ W.heap.size 1 _ _ _ hbox4; have hb42 := cell_of_row _ W.heap.size 2 _ _ _ hbox4; have hb43 := cell_of_row _ W.heap.size 3 _ _ _ hbox4; have hrow4 : (W3.setCell ⟨W.heap.size, 3, none⟩ (.string (B x.s))).ownsRow (w.heap.size + 4) 143 4 v fs.length (flds fs) := ownsRow_heap hrow (hgo W3 hB3); have hvc4 : (W3.setCell ⟨W.heap.size, 3, none⟩ (.string (B x.s))).cell? ⟨w.heap.size + 1 + 1, 0, none⟩ = some v := cell_of_row _ (w.heap.size + 2) 0 _ _ _ hv4)
        | (gi_at_builtin; refine wpListIn_append_own _ rfl _ _ 171 rfl (w.heap.size + 4) 143 i0 (.agg #[.int .i64 0, .int .i64 0, .int .u64 0, .string ⟨#[]⟩]) 4 40 Tryd.underlying171 hi hz0 hz1 hz2 rfl (by decide) v fs.length (flds fs) rfl (hrow4.alloc _) _ 1 1 (fcells x) rfl rfl ?_ ?_ ?_ ?_ ?_ ?_; rotate_left 5; intro v' w1 hown' hgrow _; obtain ⟨g', cap', rfl⟩ := ownsRow_succ hown'; have hv1 := out_kept hrow4 hgrow hv4; have hvc1 : w1.cell? ⟨w.heap.size + 1 + 1, 0, none⟩ = some v := cell_of_row _ (w.heap.size + 2) 0 _ _ _ hv1; have hvf1 : w1.frozen? ⟨w.heap.size + 1 + 1, 0, none⟩ = false := frozen_at (b := w.heap.size + 2) hv1))
      · obtain ⟨k1, k2, k3⟩ := round_end hO2.toPI hv2 (by omega) (by rw [hs2]; simp) hB3 hrow4 hgrow hown'
        exact ⟨k1, k2, fs ++ [x], by simp, k3⟩
      · intro j u hj
        have hj4 : j < 4 := by have := (List.getElem?_eq_some_iff.1 hj).1; simpa [fcells] using this
        have e := World.alloc_heap_new (W3.setCell ⟨W.heap.size, 3, none⟩ (.string (B x.s))) (fobj x)
        have := cell_of_row _ (W3.setCell ⟨W.heap.size, 3, none⟩ (.string (B x.s))).heap.size j _ _ _ e
        rw [show W3.heap.size = (W3.setCell ⟨W.heap.size, 3, none⟩ (.string (B x.s))).heap.size by simp [World.setCell], Go.Sx.add_add, Nat.zero_add, this]
        simpa [fcells] using hj
      · intro u hu
        simp [fcells] at hu
        rcases hu with rfl | rfl | rfl | rfl <;> rfl
      · unfold maxLen; omega
      · omega
      · have := hB3.size; rw [hs2, World.size_alloc] at this; simp [World.setCell]; omega
      · rw [Go.Sx.B_size]; have : x.s.length ≤ s.length := hG; omega
    | bad num kind nn gs p sh =>
      have fin : ∀ (W2 W3 : World), PI w w.heap.size W2 → Below W2.heap.size W2 W3 → KeepsOthers W2 ((W3.setCell ⟨w.heap.size, 0, none⟩ (.slice none 0 0)).setCell ⟨w.heap.size + 1, 0, none⟩ (.bool false)) ∧ PI w w.heap.size ((W3.setCell ⟨w.heap.size, 0, none⟩ (.slice none 0 0)).setCell ⟨w.heap.size + 1, 0, none⟩ (.bool false)) := fun W2 W3 h hB => by
        have k2 := (hB.block _ (Array.getElem?_eq_some_iff.1 h.r2).1).trans h.r2
        have k3 := (hB.block _ (Array.getElem?_eq_some_iff.1 h.r3).1).trans h.r3
        refine ⟨((keeps_below hB).trans (KeepsOthers.setCell _ _ _)).trans (KeepsOthers.setCell _ _ _), ?_, ?_, ?_⟩
        · rw [Below.heap_setCell _ _ _ _ (by show w.heap.size ≠ w.heap.size + 1; omega), setCell_row k2]; rfl
        · rw [setCell_row (by rw [Below.heap_setCell _ _ _ _ (by show w.heap.size + 1 ≠ w.heap.size; omega)]; exact k3)]; rfl
        · exact ((h.low.trans (hB.mono (Nat.le_of_lt (Array.getElem?_eq_some_iff.1 h.r2).1))).setCell (p := ⟨w.heap.size, 0, none⟩) (Nat.le_refl _) _).setCell (p := ⟨w.heap.size + 1, 0, none⟩) (by show w.heap.size ≤ w.heap.size + 1; omega) _
      simp only [It.encs]
      cases sh with
      | true =>
        simp only [if_true]
        gi_wp2
        refine ⟨(Below.refl _ _).alloc (Nat.le_refl _) _, ?_⟩
        rintro W2 hs2 ho2 ⟨fs', he, hO2⟩
        have hE2 := hE.below hO2.low
        have hg0 := hE2.c0
        have hg1 := hE2.c1
        have c2 := cell_of_heap hO2.r2
        have c3 := cell_of_heap hO2.r3
        gi_wp2
        refine ⟨trivial, ?_⟩
        refine (CallsIn.inRound l (callsIn_wide.2 (is_at_same _ _ _))).mono ?_
        rintro e W3 ⟨rfl, hB3⟩
        have k2 := (hB3.block _ (Array.getElem?_eq_some_iff.1 hO2.r2).1).trans hO2.r2
        have k3 := (hB3.block _ (Array.getElem?_eq_some_iff.1 hO2.r3).1).trans hO2.r3
        have kc2 := cell_of_heap k2
        have kc3 := cell_of_heap k3
        have kf2 := frozen_at (o := 0) k2
        have kf3 := frozen_at (o := 0) k3
        gi_wp2
        refine ⟨trivial, ?_⟩
        gi_wp2
        obtain ⟨f1, f2⟩ := fin W2 W3 hO2.toPI hB3
        exact ⟨f1, ⟨_, _, rfl, fun f => by simp⟩, f2⟩
      | false =>
        simp only [Bool.false_eq_true, if_false]
        gi_wp2
        refine ⟨(Below.refl _ _).alloc (Nat.le_refl _) _, ?_⟩
        rintro W2 hs2 ho2 ⟨fs', he, hO2⟩
        have hE2 := hE.below hO2.low
        have hg0 := hE2.c0
        have hg1 := hE2.c1
        obtain ⟨ca, ta, ha⟩ := hE2.h0
        obtain ⟨cb, tb, hbb⟩ := hE2.h1
        gi_wp2
        refine ⟨trivial, ?_⟩
        refine (CallsIn.inRound l (callsIn_wide.2 (is_at_other _ a1 a0 _ _ _ _ _ hE2.ne.symm hbb ha))).mono ?_
        rintro e W3 ⟨rfl, hB3⟩
        have hE3 := hE2.below hB3
        have hg1' := hE3.c1
        gi_wp2
        refine ⟨trivial, ?_⟩
        refine (CallsIn.inRound l (callsIn_wide.2 (is_at_same _ _ _))).mono ?_
        rintro e W4 ⟨rfl, hB4⟩
        have hB34 : Below W2.heap.size W2 W4 := hB3.trans (hB4.mono hB3.size)
        have k2 := (hB34.block _ (Array.getElem?_eq_some_iff.1 hO2.r2).1).trans hO2.r2
        have k3 := (hB34.block _ (Array.getElem?_eq_some_iff.1 hO2.r3).1).trans hO2.r3
        have kc2 := cell_of_heap k2
        have kc3 := cell_of_heap k3
        have kf2 := frozen_at (o := 0) k2
        have kf3 := frozen_at (o := 0) k3
        gi_wp2
        obtain ⟨f1, f2⟩ := fin W2 W4 hO2.toPI hB34
        exact ⟨f1, ⟨_, _, rfl, fun f => by simp⟩, f2⟩
  case done =>
    rintro xs W ⟨fs, hp, rfl⟩ ⟨fs', he, hO⟩ hK
    obtain rfl := map_f_inj he
    obtain ⟨v, hv, hrow⟩ := hO.out
    obtain ⟨qv, mv, cv, rfl⟩ := ownsRow_slice hrow
    have hk2 : W.cell? ⟨w.heap.size, 0, none⟩ = some (.slice none 0 0) := cell_of_row W w.heap.size 0 _ _ _ hO.r2
    have hk3 : W.cell? ⟨w.heap.size + 1, 0, none⟩ = some (.bool false) := cell_of_row W (w.heap.size + 1) 0 _ _ _ hO.r3
    have hkv : W.cell? ⟨w.heap.size + 1 + 1, 0, none⟩ = some (.slice qv mv cv) := cell_of_row W (w.heap.size + 2) 0 _ _ _ hv
    have hf2 := frozen_at (o := 0) hO.r2
    have hf3 := frozen_at (o := 0) hO.r3
    gi_wp2
    refine ⟨by simp, .inl ⟨_, _, rfl, run_takeDeferred (by rw [Below.heap_setCell _ _ _ _ (by show w.heap.size + 4 ≠ w.heap.size + 1; omega), Below.heap_setCell _ _ _ _ (by show w.heap.size + 4 ≠ w.heap.size; omega), ← hsz]; exact hK), ?_⟩⟩
    have hl2 := setCell_row (o := 0) (v := .slice qv mv cv) hO.r2
    have hl3 : ((W.setCell ⟨w.heap.size, 0, none⟩ (.slice qv mv cv)).setCell ⟨w.heap.size + 1, 0, none⟩ (.bool true)).heap[w.heap.size + 1]? = some (.cells #[.bool true] 4 (0, 0)) := by
      rw [setCell_row (by rw [Below.heap_setCell _ _ _ _ (by show w.heap.size + 1 ≠ w.heap.size; omega)]; exact hO.r3)]; rfl
    have hl2' : ((W.setCell ⟨w.heap.size, 0, none⟩ (.slice qv mv cv)).setCell ⟨w.heap.size + 1, 0, none⟩ (.bool true)).heap[w.heap.size]? = some (.cells #[.slice qv mv cv] 171 (0, 0)) := by
      rw [Below.heap_setCell _ _ _ _ (by show w.heap.size ≠ w.heap.size + 1; omega), hl2]; rfl
    refine ⟨_, results_cc rfl rfl rfl Tryd.isAgg171 Tryd.isAgg4 (cell_of_heap (by rw [World.putObj_heap_other (by omega)]; exact hl2')) (cell_of_heap (by rw [World.putObj_heap_other (by omega)]; exact hl3)), ?_, ?_⟩
    · refine ((hO.low.setCell (p := ⟨w.heap.size, 0, none⟩) (Nat.le_refl _) _).setCell (p := ⟨w.heap.size + 1, 0, none⟩) (by show w.heap.size ≤ w.heap.size + 1; omega) _).trans ((Below.refl _ _).grown (grownBy_putObj' _ _ _) (by simp [World.setCell]; have := (Array.getElem?_eq_some_iff.1 hO.r2).1; omega) (fun j e => by cases e; omega))
    · refine ⟨_, rfl, ownsRow_heap hrow fun g o hg ho hc => ?_⟩
      have hgD : g ≠ w.heap.size + 4 := fun e => by subst e; rw [hsz] at hK; rw [hK] at ho; cases ho; cases hc
      rw [World.putObj_heap_other hgD, Below.heap_setCell _ _ _ _ (by show g ≠ w.heap.size + 1; omega), Below.heap_setCell _ _ _ _ (by show g ≠ w.heap.size; omega)]
  case stop =>
    rintro xs W hS ⟨⟨q, x, rfl, hx⟩, hI⟩ hK
    have hP0 : NW.parse s = none := by
      rcases hS with h | ⟨q', f, h⟩
      · exact h
      · have := (List.append_inj' h rfl).2
        simp at this
        exact absurd this (hx f)
    have hk2 : W.cell? ⟨w.heap.size, 0, none⟩ = some (.slice none 0 0) := cell_of_row W w.heap.size 0 _ _ _ hI.r2
    have hk3 : W.cell? ⟨w.heap.size + 1, 0, none⟩ = some (.bool false) := cell_of_row W (w.heap.size + 1) 0 _ _ _ hI.r3
    gi_wp2
    refine ⟨by simp, .inl ⟨_, _, rfl, run_takeDeferred hK, ?_⟩⟩
    refine ⟨_, results_cc rfl rfl rfl Tryd.isAgg171 Tryd.isAgg4 (cell_of_heap (by rw [World.putObj_heap_other (by omega)]; exact hI.r2)) (cell_of_heap (by rw [World.putObj_heap_other (by omega)]; exact hI.r3)), ?_, ?_⟩
    · exact hI.low.trans ((Below.refl _ _).grown (grownBy_putObj' _ _ _) (by have := (Array.getElem?_eq_some_iff.1 hI.r2).1; omega) (fun j e => by cases e; omega))
    · rw [hP0]; rfl
end Go.Proofs.YtbdacbcpniegiaaDoor
namespace Go.Proofs.YtbdacbcpniegiaaDoor
open Go Go.RowKit Go.Proofs Go.Sx
set_option maxHeartbeats 4000000
set_option maxRecDepth 100000
set_option linter.unusedSimpArgs false
set_option linter.unusedVariables false
structure EA where
  k : Addr
  f : Addr
  s : Addr
  w : Addr
def tS : List UInt8 := [116, 111, 111, 32, 102, 101, 119, 32, 98, 121, 116, 101, 115]
def tW : List UInt8 := [110, 111, 32, 115, 117, 99, 104, 32, 102, 105, 101, 108, 100]
abbrev errV (a : Addr) : Value := .iface 253 (.pointer (some a))
def GW (e : EA) : List (Addr × Value) := [(⟨2, 0, none⟩, errV e.s), (⟨3, 0, none⟩, errV e.w), (e.s, .string (B tS)), (e.w, .string (B tW))]
structure EA.Ok (e : EA) : Prop where
  kf : e.k ≠ e.f
  sw : e.s ≠ e.w
theorem Known.cells {X : Ctx} {G : List (Addr × Value)} (h : Known X G) {ρ : List (List Nat)} {σ : List Value} {a : Act} {w : World} {c : Cfg} (hr : Rel X c ρ σ a w) {p : Addr × Value} (hp : p ∈ G) : w.cell? p.1 = some p.2 ∧ loneStr w p := by
  obtain ⟨h1, h2, h3⟩ := h p hp
  refine ⟨hr.old h1 h2, ?_⟩
  unfold loneStr at h3 ⊢
  split
  · rename_i s hs
    rw [hs] at h3
    obtain ⟨cs, t, h4⟩ := h3
    exact ⟨cs, t, (hr.low.block _ (Array.getElem?_eq_some_iff.1 h4).1 h2).trans h4⟩
  · trivial
theorem Known.errs {X : Ctx} {e : EA} (he : e.Ok) (h : Known X (GW e)) {ρ : List (List Nat)} {σ : List Value} {a : Act} {w : World} {c : Cfg} (hr : Rel X c ρ σ a w) : Errs w e.s e.w :=
  ⟨(Known.cells h hr (p := (⟨2, 0, none⟩, errV e.s)) (by simp [GW])).1, (Known.cells h hr (p := (⟨3, 0, none⟩, errV e.w)) (by simp [GW])).1, he.sw,
    (Known.cells h hr (p := (e.s, .string (B tS))) (by simp [GW])).2, (Known.cells h hr (p := (e.w, .string (B tW))) (by simp [GW])).2⟩
@[reducible] def frow (l : List NW.Fld) : LO := .row 143 4 l.length (flds l)
theorem ownBlock_of_row {W : World} {n₀ sz n : Nat} {e : TypeId} {v : Value} {xs : List Value} (h : W.ownsRow n₀ e sz v n xs) : v.oneCell' = true ∧ ∃ fp : List Nat, fp.Nodup ∧ (∀ b ∈ fp, n₀ ≤ b ∧ b < W.heap.size) ∧ (∀ k, v.ownBlock = some k → k ∈ fp) ∧ W.ownsRow 0 e sz v n xs := by
  obtain ⟨h1, h2⟩ := h
  rcases h2 with ⟨rfl, h3⟩ | ⟨g, cap, cur, rfl, hle, hh, rest⟩
  · exact ⟨rfl, [], by simp, by simp, by simp [Value.ownBlock], h1, .inl ⟨rfl, h3⟩⟩
  · refine ⟨rfl, [g], by simp, fun b hb => ?_, fun k hk => ?_, h1, .inr ⟨g, cap, cur, rfl, Nat.zero_le _, hh, rest⟩⟩
    · simp at hb; subst hb; exact ⟨hle, (Array.getElem?_eq_some_iff.1 hh).1⟩
    · simp [Value.ownBlock] at hk; subst hk; simp
def parsedO : Option (List NW.Fld) → List LO
  | none => []
  | some l => [frow l]
def parsedV : Option (List NW.Fld) → SV
  | none => .tup [.c (.v (.slice none 0 0)), .c (.v (.bool false))]
  | some l => .tup [.c (.row 0), .c (.v (.bool true))]
theorem parse_ctrW {e : EA} (he : e.Ok) (s : List UInt8) (hs : s.length ≤ 1099511627776) : Ctr Tryd.prog (GW e) 109 [] [vv (.string (B s))] (fun os v => os = parsedO (NW.parse s) ∧ v = parsedV (NW.parse s)) := by
  intro X hP hG N hN ρ σ a w hr vals ha
  match vals, ha with
  | [v0], ha =>
    obtain rfl : v0 = .string (B s) := ha.1
    rw [hP]
    refine (parse_any s hs w e.s e.w (Known.errs he hG hr)).mono ?_
    rintro en W' ⟨hb, hR⟩
    cases hp : NW.parse s with
    | none =>
      rw [hp] at hR hN
      obtain rfl : en = _ := hR
      exact ⟨_, ⟨[], []⟩, ρ, σ, parsedV none, rfl, hr.below hb, ⟨[.slice none 0 0, .bool false], rfl, rfl, rfl, trivial⟩, hN _ _ ⟨rfl, rfl⟩⟩
    | some l =>
      rw [hp] at hR hN
      obtain ⟨v, rfl, hrow⟩ := hR
      obtain ⟨h1, fp, hnd, hfp, hk, h0⟩ := ownBlock_of_row hrow
      have hR := hr.push (o := frow l) (fp := fp) (v := v) hb (fun b hb => ⟨by have := (hfp b hb).1; omega, (hfp b hb).2⟩) hnd ⟨h0, hk⟩ h1
      refine ⟨_, ⟨[], [frow l]⟩, _, _, parsedV (some l), rfl, hR, ⟨[v, .bool true], rfl, ?_, rfl, trivial⟩, hN _ _ ⟨rfl, rfl⟩⟩
      show (σ ++ [v])[0]? = some v
      have : σ.length = 0 := by rw [hr.lenS]; rfl
      rw [List.getElem?_append_right (by omega), this]; rfl
end Go.Proofs.YtbdacbcpniegiaaDoor
namespace Go.Proofs.YtbdacbcpniegiaaDoor
open Go Go.RowKit Go.Proofs Go.Sx
set_option maxHeartbeats 4000000
set_option maxRecDepth 100000
set_option linter.unusedSimpArgs false
set_option linter.unusedVariables false
end Go.Proofs.YtbdacbcpniegiaaDoor
namespace Go.Proofs.YtbdacbcpniegiaaDoor
open Go Go.RowKit Go.Proofs Go.Sx
set_option maxHeartbeats 4000000
set_option maxRecDepth 100000
set_option linter.unusedSimpArgs false
set_option linter.unusedVariables false
instance : Inhabited NW.Fld := ⟨⟨0, 0, 0, []⟩⟩
theorem flds_cell (l : List NW.Fld) (i : Nat) (h : i < l.length) : ((flds l).drop (i * 4)).take 4 = fcells (l.getD i default) := by
  induction l generalizing i with
  | nil => simp at h
  | cons f l ih =>
    cases i with
    | zero => simp [flds, fcells]
    | succ i =>
      have : flds (f :: l) = fcells f ++ flds l := rfl
      rw [this, show (i + 1) * 4 = 4 + i * 4 by omega, ← List.drop_drop]
      simp only [List.getD_cons_succ]
      exact ih i (by simpa using h)
theorem parse_len_aux : ∀ (n : Nat) (s : List UInt8) (l : List NW.Fld), s.length ≤ n → NW.parse s = some l → l.length ≤ s.length
  | n, [], l, _, h => by rw [NW.parse_nil] at h; cases h; simp
  | 0, b :: s, l, hn, h => by simp at hn
  | n + 1, b :: s, l, hn, h => by
    cases ht : NW.takeF (b :: s) with
    | none => rw [NW.parse_none (by simp) ht] at h; cases h
    | some fr =>
      obtain ⟨f, r⟩ := fr
      have hl := NW.takeF_len ht
      rw [NW.parse_some ht] at h
      cases hr : NW.parse r with
      | none => rw [hr] at h; cases h
      | some l' =>
        rw [hr] at h; cases h
        have := parse_len_aux n r l' (by simp only [List.length_cons] at hl hn; omega) hr
        simp only [List.length_cons] at *
        omega
theorem parse_len {s : List UInt8} {l : List NW.Fld} (h : NW.parse s = some l) : l.length ≤ s.length := parse_len_aux _ s l (Nat.le_refl _) h
theorem drop_getD {l : List NW.Fld} {i : Nat} (h : i < l.length) : l.drop i = l.getD i default :: l.drop (i + 1) := by
  rw [List.drop_eq_getElem_cons h]; congr 1
  rw [List.getD_eq_getElem?_getD, List.getElem?_eq_getElem h]; rfl
end Go.Proofs.YtbdacbcpniegiaaDoor
namespace Go.Proofs.YtbdacbcpniegiaaDoor
open Go Go.RowKit Go.Proofs Go.Sx
set_option maxHeartbeats 4000000
set_option maxRecDepth 100000
set_option linter.unusedSimpArgs false
set_option linter.unusedVariables false
theorem isNaN_int (a : Int) (w : World) : Calls Tryd.prog 148 #[.int .i64 a] w fun e w' => e = .returned (.bool false) ∧ Below w.heap.size w w' := by
  refine calls_pureK (args := [.int .i64 a]) w Tryd.func148 rfl Tryd.ntmps148 (by simp) ?_
  intro X K hX hK
  have hnt : X.nt = 6 := by rw [hX]
  have hwi : X.wi = w := by rw [hX]
  have hP : X.P = Tryd.prog := by rw [hX]
  have hown : X.own = [] := by rw [hX]
  have hbl : X.base.length = 0 := by rw [hX]; rfl
  clear hX
  have hT : True := trivial
  repeat' (first
    | (refine SX.seqK ?_; intro N hN)
    | ((first | (refine SX.ops ?_)); simp only [GA, ↓GB, List.filterMap_cons, eq_self, BEq.rfl, simprocAttr, hnt, hT])
    | ((first | refine SX.skip ?_ | refine SX.exit ?_ | refine SX.label ?_); try simp only [GA, ↓GB, List.filterMap_cons, eq_self, BEq.rfl, simprocAttr])
    | (refine SX.cond rfl (fun hb => ?_) (fun hb => ?_) <;> ((first | cases hb | (simp only [decide_eq_true_eq, decide_eq_false_iff_not, beq_iff_eq, beq_eq_false_iff_ne, bne_iff_ne, Bool.and_eq_true, Bool.or_eq_true, Bool.not_eq_true', Bool.not_eq_false', Bool.and_eq_false_iff, Bool.or_eq_false_iff, Int.not_lt, Int.not_le] at hb) | skip) <;> (first | (exfalso; omega) | skip)))
    | (refine SX.ret ?_; try simp only [GA, ↓GB, List.filterMap_cons, eq_self, BEq.rfl, simprocAttr])
    | (refine hN _ ?_; clear hN N)
    | (refine hK _ _ (Fin.res rfl hown ?_); simp only [GA, ↓GB, List.filterMap_cons, eq_self, BEq.rfl, simprocAttr, f_a, f_b, f_n, f_c, f_B, f_v, f_g, f_0, f_1, f_2, hT, hwi]; intro w' hbel; refine Done.out ?_)
    | (clear hN N; first | (refine hN _ ?_; clear hN N) | (clear hN N; first | (refine hN _ ?_; clear hN N) | (clear hN N; first | (refine hN _ ?_; clear hN N) | (clear hN N; first | (refine hN _ ?_; clear hN N) | (clear hN N; first | (refine hN _ ?_; clear hN N) | (refine hN _ ?_; clear hN N))))))
    | (refine bif2.mk (fun hb => ?_) (fun hb => ?_) <;> (try simp only [hb, GA, ↓GB, List.filterMap_cons, eq_self, BEq.rfl, simprocAttr, hnt, hT]) <;> ((first | cases hb | (simp only [decide_eq_true_eq, decide_eq_false_iff_not, beq_iff_eq, beq_eq_false_iff_ne, bne_iff_ne, Bool.and_eq_true, Bool.or_eq_true, Bool.not_eq_true', Bool.not_eq_false', Bool.and_eq_false_iff, Bool.or_eq_false_iff, Int.not_lt, Int.not_le] at hb) | skip) <;> (first | (exfalso; omega) | skip)))
    | (refine SX.block ?_)
    | (refine and_mk ?_ ?_; (focus first | decide | omega | rfl | assumption | (simp only [List.length_append, List.length_cons, List.length_nil, B_size]; omega) | (simp; done)))
    | (refine And.intro ?_ ?_))
  all_goals (try refine Done.mk ?_)
  exact hbel
theorem isNaN_str (s : List UInt8) (w : World) : Calls Tryd.prog 149 #[.string (B s)] w fun e w' => e = .returned (.bool false) ∧ Below w.heap.size w w' := by
  refine calls_pureK (args := [.string (B s)]) w Tryd.func149 rfl Tryd.ntmps149 (by simp) ?_
  intro X K hX hK
  have hnt : X.nt = 6 := by rw [hX]
  have hwi : X.wi = w := by rw [hX]
  have hP : X.P = Tryd.prog := by rw [hX]
  have hown : X.own = [] := by rw [hX]
  have hbl : X.base.length = 0 := by rw [hX]; rfl
  clear hX
  have hT : True := trivial
  repeat' (first
    | (refine SX.seqK ?_; intro N hN)
    | ((first | (refine SX.ops ?_)); simp only [GA, ↓GB, List.filterMap_cons, eq_self, BEq.rfl, simprocAttr, hnt, hT])
    | ((first | refine SX.skip ?_ | refine SX.exit ?_ | refine SX.label ?_); try simp only [GA, ↓GB, List.filterMap_cons, eq_self, BEq.rfl, simprocAttr])
    | (refine SX.cond rfl (fun hb => ?_) (fun hb => ?_) <;> ((first | cases hb | (simp only [decide_eq_true_eq, decide_eq_false_iff_not, beq_iff_eq, beq_eq_false_iff_ne, bne_iff_ne, Bool.and_eq_true, Bool.or_eq_true, Bool.not_eq_true', Bool.not_eq_false', Bool.and_eq_false_iff, Bool.or_eq_false_iff, Int.not_lt, Int.not_le] at hb) | skip) <;> (first | (exfalso; omega) | skip)))
    | (refine SX.ret ?_; try simp only [GA, ↓GB, List.filterMap_cons, eq_self, BEq.rfl, simprocAttr])
    | (refine hN _ ?_; clear hN N)
    | (refine hK _ _ (Fin.res rfl hown ?_); simp only [GA, ↓GB, List.filterMap_cons, eq_self, BEq.rfl, simprocAttr, f_a, f_b, f_n, f_c, f_B, f_v, f_g, f_0, f_1, f_2, hT, hwi]; intro w' hbel; refine Done.out ?_)
    | (clear hN N; first | (refine hN _ ?_; clear hN N) | (clear hN N; first | (refine hN _ ?_; clear hN N) | (clear hN N; first | (refine hN _ ?_; clear hN N) | (clear hN N; first | (refine hN _ ?_; clear hN N) | (clear hN N; first | (refine hN _ ?_; clear hN N) | (refine hN _ ?_; clear hN N))))))
    | (refine bif2.mk (fun hb => ?_) (fun hb => ?_) <;> (try simp only [hb, GA, ↓GB, List.filterMap_cons, eq_self, BEq.rfl, simprocAttr, hnt, hT]) <;> ((first | cases hb | (simp only [decide_eq_true_eq, decide_eq_false_iff_not, beq_iff_eq, beq_eq_false_iff_ne, bne_iff_ne, Bool.and_eq_true, Bool.or_eq_true, Bool.not_eq_true', Bool.not_eq_false', Bool.and_eq_false_iff, Bool.or_eq_false_iff, Int.not_lt, Int.not_le] at hb) | skip) <;> (first | (exfalso; omega) | skip)))
    | (refine SX.block ?_)
    | (refine and_mk ?_ ?_; (focus first | decide | omega | rfl | assumption | (simp only [List.length_append, List.length_cons, List.length_nil, B_size]; omega) | (simp; done)))
    | (refine And.intro ?_ ?_))
  all_goals (try refine Done.mk ?_)
  exact hbel
theorem compare_int (a b : Int) (w : World) : Calls Tryd.prog 120 #[.int .i64 a, .int .i64 b] w fun e w' => e = .returned (.int .i64 (cmpI a b)) ∧ Below w.heap.size w w' := by
  refine calls_pureK (args := [.int .i64 a, .int .i64 b]) w Tryd.func120 rfl Tryd.ntmps120 (by simp) ?_
  intro X K hX hK
  have hnt : X.nt = 20 := by rw [hX]
  have hwi : X.wi = w := by rw [hX]
  have hP : X.P = Tryd.prog := by rw [hX]
  have hown : X.own = [] := by rw [hX]
  have hbl : X.base.length = 0 := by rw [hX]; rfl
  clear hX
  have hT : calleeOk X.P 148 = true := by rw [hP]; exact Ty.co148
  repeat' (first
    | (refine SX.seqK ?_; intro N hN)
    | ((first | (refine SX.ops ?_)); simp only [GA, ↓GB, List.filterMap_cons, eq_self, BEq.rfl, simprocAttr, hnt, hT])
    | ((first | refine SX.skip ?_ | refine SX.exit ?_ | refine SX.label ?_); try simp only [GA, ↓GB, List.filterMap_cons, eq_self, BEq.rfl, simprocAttr])
    | (refine SX.cond rfl (fun hb => ?_) (fun hb => ?_) <;> ((first | cases hb | (simp only [decide_eq_true_eq, decide_eq_false_iff_not, beq_iff_eq, beq_eq_false_iff_ne, bne_iff_ne, Bool.and_eq_true, Bool.or_eq_true, Bool.not_eq_true', Bool.not_eq_false', Bool.and_eq_false_iff, Bool.or_eq_false_iff, Int.not_lt, Int.not_le] at hb) | skip) <;> (first | (exfalso; omega) | skip)))
    | (refine SX.ret ?_; try simp only [GA, ↓GB, List.filterMap_cons, eq_self, BEq.rfl, simprocAttr])
    | (refine hN _ ?_; clear hN N)
    | (refine hK _ _ (Fin.res rfl hown ?_); simp only [GA, ↓GB, List.filterMap_cons, eq_self, BEq.rfl, simprocAttr, f_a, f_b, f_n, f_c, f_B, f_v, f_g, f_0, f_1, f_2, hT, hwi]; intro w' hbel; refine Done.out ?_)
    | (clear hN N; first | (refine hN _ ?_; clear hN N) | (clear hN N; first | (refine hN _ ?_; clear hN N) | (clear hN N; first | (refine hN _ ?_; clear hN N) | (clear hN N; first | (refine hN _ ?_; clear hN N) | (clear hN N; first | (refine hN _ ?_; clear hN N) | (refine hN _ ?_; clear hN N))))))
    | (refine bif2.mk (fun hb => ?_) (fun hb => ?_) <;> (try simp only [hb, GA, ↓GB, List.filterMap_cons, eq_self, BEq.rfl, simprocAttr, hnt, hT]) <;> ((first | cases hb | (simp only [decide_eq_true_eq, decide_eq_false_iff_not, beq_iff_eq, beq_eq_false_iff_ne, bne_iff_ne, Bool.and_eq_true, Bool.or_eq_true, Bool.not_eq_true', Bool.not_eq_false', Bool.and_eq_false_iff, Bool.or_eq_false_iff, Int.not_lt, Int.not_le] at hb) | skip) <;> (first | (exfalso; omega) | skip)))
    | ((first | (refine CallVC.pv hP (isNaN_int _) rfl ?_) | (refine CallQ.pv hP (isNaN_int _) rfl ?_)); simp only [GA, ↓GB, List.filterMap_cons, eq_self, BEq.rfl, simprocAttr, hnt, hT])
    | (refine SX.block ?_)
    | (refine and_mk ?_ ?_; (focus first | decide | omega | rfl | assumption | (simp only [List.length_append, List.length_cons, List.length_nil, B_size]; omega) | (simp; done)))
    | (refine And.intro ?_ ?_))
  all_goals (try refine Done.mk ?_)
  all_goals (refine ⟨?_, hbel⟩; congr 2; simp only [cmpI]; split <;> (try split) <;> omega)
theorem compare_str (a b : List UInt8) (w : World) : Calls Tryd.prog 121 #[.string (B a), .string (B b)] w fun e w' => e = .returned (.int .i64 (cmpS a b)) ∧ Below w.heap.size w w' := by
  refine calls_pureK (args := [.string (B a), .string (B b)]) w Tryd.func121 rfl Tryd.ntmps121 (by simp) ?_
  intro X K hX hK
  have hnt : X.nt = 20 := by rw [hX]
  have hwi : X.wi = w := by rw [hX]
  have hP : X.P = Tryd.prog := by rw [hX]
  have hown : X.own = [] := by rw [hX]
  have hbl : X.base.length = 0 := by rw [hX]; rfl
  clear hX
  have hT : calleeOk X.P 149 = true := by rw [hP]; exact Ty.co149
  repeat' (first
    | (refine SX.seqK ?_; intro N hN)
    | ((first | (refine SX.ops ?_)); simp only [GA, ↓GB, List.filterMap_cons, eq_self, BEq.rfl, simprocAttr, hnt, hT, gtr_eq])
    | ((first | refine SX.skip ?_ | refine SX.exit ?_ | refine SX.label ?_); try simp only [GA, ↓GB, List.filterMap_cons, eq_self, BEq.rfl, simprocAttr])
    | (refine SX.cond rfl (fun hb => ?_) (fun hb => ?_) <;> ((first | cases hb | (simp only [decide_eq_true_eq, decide_eq_false_iff_not, beq_iff_eq, beq_eq_false_iff_ne, bne_iff_ne, Bool.and_eq_true, Bool.or_eq_true, Bool.not_eq_true', Bool.not_eq_false', Bool.and_eq_false_iff, Bool.or_eq_false_iff, Int.not_lt, Int.not_le] at hb) | skip) <;> (first | (exfalso; omega) | skip)))
    | (refine SX.ret ?_; try simp only [GA, ↓GB, List.filterMap_cons, eq_self, BEq.rfl, simprocAttr])
    | (refine hN _ ?_; clear hN N)
    | (refine hK _ _ (Fin.res rfl hown ?_); simp only [GA, ↓GB, List.filterMap_cons, eq_self, BEq.rfl, simprocAttr, f_a, f_b, f_n, f_c, f_B, f_v, f_g, f_0, f_1, f_2, hT, hwi, gtr_eq]; intro w' hbel; refine Done.out ?_)
    | (clear hN N; first | (refine hN _ ?_; clear hN N) | (clear hN N; first | (refine hN _ ?_; clear hN N) | (clear hN N; first | (refine hN _ ?_; clear hN N) | (clear hN N; first | (refine hN _ ?_; clear hN N) | (clear hN N; first | (refine hN _ ?_; clear hN N) | (refine hN _ ?_; clear hN N))))))
    | (refine bif2.mk (fun hb => ?_) (fun hb => ?_) <;> (try simp only [hb, GA, ↓GB, List.filterMap_cons, eq_self, BEq.rfl, simprocAttr, hnt, hT, gtr_eq]) <;> ((first | cases hb | (simp only [decide_eq_true_eq, decide_eq_false_iff_not, beq_iff_eq, beq_eq_false_iff_ne, bne_iff_ne, Bool.and_eq_true, Bool.or_eq_true, Bool.not_eq_true', Bool.not_eq_false', Bool.and_eq_false_iff, Bool.or_eq_false_iff, Int.not_lt, Int.not_le] at hb) | skip) <;> (first | (exfalso; omega) | skip)))
    | ((first | (refine CallVC.pv hP (isNaN_str _) rfl ?_) | (refine CallQ.pv hP (isNaN_str _) rfl ?_)); simp only [GA, ↓GB, List.filterMap_cons, eq_self, BEq.rfl, simprocAttr, hnt, hT, gtr_eq])
    | (refine SX.block ?_)
    | (refine and_mk ?_ ?_; (focus first | decide | omega | rfl | assumption | (simp only [List.length_append, List.length_cons, List.length_nil, B_size]; omega) | (simp; done)))
    | (refine And.intro ?_ ?_))
  all_goals (try refine Done.mk ?_)
  all_goals (refine ⟨?_, hbel⟩; congr 2; simp_all [cmpS])
end Go.Proofs.YtbdacbcpniegiaaDoor
namespace Go.Proofs.YtbdacbcpniegiaaDoor
open Go Go.RowKit Go.Proofs Go.Sx
set_option maxHeartbeats 4000000
set_option maxRecDepth 100000
set_option linter.unusedSimpArgs false
set_option linter.unusedVariables false
def cmpKey (a : Int) (s : List UInt8) (b : Int) (t : List UInt8) : Int := if cmpI a b ≠ 0 then cmpI a b else cmpS s t
theorem order_any (a b : Int) (s t : List UInt8) (w : World) : Calls Tryd.prog 63 #[.agg #[.int .i64 a, .string (B s)], .agg #[.int .i64 b, .string (B t)]] w fun e w' => e = .returned (.int .i64 (cmpKey a s b t)) ∧ Below w.heap.size w w' := by
  refine calls_pureK (args := [.agg #[.int .i64 a, .string (B s)], .agg #[.int .i64 b, .string (B t)]]) w Tryd.func63 rfl Tryd.ntmps63 (by simp) ?_
  intro X K hX hK
  have hnt : X.nt = 17 := by rw [hX]
  have hwi : X.wi = w := by rw [hX]
  have hP : X.P = Tryd.prog := by rw [hX]
  have hown : X.own = [] := by rw [hX]
  have hbl : X.base.length = 0 := by rw [hX]; rfl
  clear hX
  have hT : fieldOff X.P 26 0 = some 0 ∧ aggOf X.P 3 = some false ∧ szOf X.P 3 = some 1 ∧ calleeOk X.P 120 = true ∧ fieldOff X.P 26 1 = some 1 ∧ aggOf X.P 9 = some false ∧ szOf X.P 9 = some 1 ∧ calleeOk X.P 121 = true ∧ elemSz X.P 51 = some (3, 1) ∧ zeroCells X.P 3 = some [(Value.int IntKind.i64 0)] ∧ calleeOk X.P 119 = true := by rw [hP]; exact ⟨Ty.fo26_0, Ty.ag3, Ty.sz3, Ty.co120, Ty.fo26_1, Ty.ag9, Ty.sz9, Ty.co121, Ty.el51, Ty.ze3, Ty.co119⟩
  have hnt1 := True.intro; have hT1 := True.intro; have hU1P := True.intro
  repeat' (first
    | (refine SX.seqK ?_; intro N hN)
    | ((first | (refine SX.ops ?_) | (refine SX.planT (id := 1) [.q [(0, [2]), (1, [5]), (2, [3]), (3, [7]), (4, [6, 8]), (5, [2]), (6, [10]), (7, [3]), (8, [12]), (9, [11, 13])] none, .s 10, .s 11, .s 12] ?_ ?_ ?_; (focus first | (rw [hP]; kernel_rfl) | (rw [hU1P, hP]; kernel_rfl)); (focus kernel_rfl))); simp only [GA, ↓GB, List.filterMap_cons, eq_self, BEq.rfl, simprocAttr, hnt, hT, hnt1, hT1, hU1P])
    | ((first | refine SX.skip ?_ | refine SX.exit ?_ | refine SX.label ?_); try simp only [GA, ↓GB, List.filterMap_cons, eq_self, BEq.rfl, simprocAttr])
    | (refine SX.cond rfl (fun hb => ?_) (fun hb => ?_) <;> ((first | cases hb | (simp only [decide_eq_true_eq, decide_eq_false_iff_not, beq_iff_eq, beq_eq_false_iff_ne, bne_iff_ne, Bool.and_eq_true, Bool.or_eq_true, Bool.not_eq_true', Bool.not_eq_false', Bool.and_eq_false_iff, Bool.or_eq_false_iff, Int.not_lt, Int.not_le] at hb) | skip) <;> (first | (exfalso; omega) | skip)))
    | (refine SX.ret ?_; try simp only [GA, ↓GB, List.filterMap_cons, eq_self, BEq.rfl, simprocAttr])
    | (refine hN _ ?_; clear hN N)
    | ((first | refine hK1 _ _ (FinI.ret3 ?_) | refine hK1 _ _ (FinI.nrm3 ?_)); (repeat (clear hN N)); clear hK1 K1; simp only [GA, ↓GB, List.filterMap_cons, eq_self, BEq.rfl, simprocAttr, finP_s, hnt, hT, hnt1, hT1, hU1P])
    | (refine hK _ _ (Fin.res rfl hown ?_); simp only [GA, ↓GB, List.filterMap_cons, eq_self, BEq.rfl, simprocAttr, f_a, f_b, f_n, f_c, f_B, f_v, f_g, f_0, f_1, f_2, hT, hwi, hnt1, hT1, hU1P]; intro w' hbel; refine Done.out ?_)
    | (clear hN N; first | (refine hN _ ?_; clear hN N) | (clear hN N; first | (refine hN _ ?_; clear hN N) | (clear hN N; first | (refine hN _ ?_; clear hN N) | (clear hN N; first | (refine hN _ ?_; clear hN N) | (clear hN N; first | (refine hN _ ?_; clear hN N) | (refine hN _ ?_; clear hN N))))))
    | (refine bif2.mk (fun hb => ?_) (fun hb => ?_) <;> (try simp only [hb, GA, ↓GB, List.filterMap_cons, eq_self, BEq.rfl, simprocAttr, hnt, hT, hnt1, hT1, hU1P]) <;> ((first | cases hb | (simp only [decide_eq_true_eq, decide_eq_false_iff_not, beq_iff_eq, beq_eq_false_iff_ne, bne_iff_ne, Bool.and_eq_true, Bool.or_eq_true, Bool.not_eq_true', Bool.not_eq_false', Bool.and_eq_false_iff, Bool.or_eq_false_iff, Int.not_lt, Int.not_le] at hb) | skip) <;> (first | (exfalso; omega) | skip)))
    | ((first | (refine CallVC.pv hP (compare_int _ _) rfl ?_) | (refine CallQ.pv hP (compare_int _ _) rfl ?_) | (refine CallVC.pv hP (compare_str _ _) rfl ?_) | (refine CallQ.pv hP (compare_str _ _) rfl ?_)); simp only [GA, ↓GB, List.filterMap_cons, eq_self, BEq.rfl, simprocAttr, hnt, hT, hnt1, hT1, hU1P])
    | (refine CallVC.inline (f := 119) ?_ rfl Tryd.ntmps119 rfl ?_ ?_; (focus rw [hP]; exact Tryd.func119); (focus simp); have hT1 : X.P.underlying 51 = some (TypeDesc.slice 3) ∧ elemSz X.P 51 = some (3, 1) ∧ aggOf X.P 3 = some false ∧ szOf X.P 3 = some 1 := (by rw [hP]; exact ⟨Tryd.underlying51, Ty.el51, Ty.ag3, Ty.sz3⟩); intro X1 K1 hU1 hnt1 hbl1 hK1; have hU1P := hU1.P; simp only [GA, ↓GB, List.filterMap_cons, eq_self, BEq.rfl, simprocAttr] at hbl1 ⊢)
    | (refine SX.loopN 3 ?_)
    | (refine SXr.stepK ?_; intro N hN)
    | ((first | (refine CallVC.pv (hU1P.trans hP) (compare_int _ _) rfl ?_) | (refine CallQ.pv (hU1P.trans hP) (compare_int _ _) rfl ?_) | (refine CallVC.pv (hU1P.trans hP) (compare_str _ _) rfl ?_) | (refine CallQ.pv (hU1P.trans hP) (compare_str _ _) rfl ?_)); simp only [GA, ↓GB, List.filterMap_cons, eq_self, BEq.rfl, simprocAttr, hnt, hT, hnt1, hT1, hU1P])
    | (refine SX.block ?_)
    | (refine and_mk ?_ ?_; (focus first | decide | omega | rfl | assumption | (simp only [List.length_append, List.length_cons, List.length_nil, B_size]; omega) | (simp; done)))
    | (refine And.intro ?_ ?_))
  all_goals (try refine Done.mk ?_)
  all_goals (refine ⟨?_, hbel⟩; simp_all [cmpKey])
end Go.Proofs.YtbdacbcpniegiaaDoor
namespace Go.Proofs
open Go.Shelf
def Tryd.lays160_ren : Go.Shelf.Ren := ⟨fun | 160 => 140 | 232 => 156 | 231 => 155 | 227 => 157 | 234 => 159 | 233 => 158 | 236 => 161 | 235 => 160 | 228 => 168 | 271 => 171 | 151 => 170 | 197 => 169 | 120 => 176 | 152 => 175 | 260 => 174 | 137 => 177 | 119 => 178 | 224 => 179 | 225 => 180 | 217 => 181 | 266 => 182 | n => n, fun | 9 => 9 | 4 => 4 | 3 => 3 | 5 => 5 | 117 => 221 | 116 => 220 | 0 => 0 | 124 => 224 | 21 => 21 | 105 => 241 | 46 => 164 | 119 => 246 | 139 => 249 | 138 => 248 | n => n, fun | 3 => 4 | 4 => 5 | n => n⟩
theorem Tryd.lays160 : Lays.n160 Tryd.prog Tryd.lays160_ren := {
  mixed := by kernel_rfl,
  f119 := Tryd.func178.trans (congrArg some (by kernel_rfl)),
  f120 := Tryd.func176.trans (congrArg some (by kernel_rfl)),
  f137 := Tryd.func177.trans (congrArg some (by kernel_rfl)),
  f151 := Tryd.func170.trans (congrArg some (by kernel_rfl)),
  f152 := Tryd.func175.trans (congrArg some (by kernel_rfl)),
  f160 := Tryd.func140.trans (congrArg some (by kernel_rfl)),
  f197 := Tryd.func169.trans (congrArg some (by kernel_rfl)),
  f217 := Tryd.func181.trans (congrArg some (by kernel_rfl)),
  f224 := Tryd.func179.trans (congrArg some (by kernel_rfl)),
  f225 := Tryd.func180.trans (congrArg some (by kernel_rfl)),
  f227 := Tryd.func157.trans (congrArg some (by kernel_rfl)),
  f228 := Tryd.func168.trans (congrArg some (by kernel_rfl)),
  f231 := Tryd.func155.trans (congrArg some (by kernel_rfl)),
  f232 := Tryd.func156.trans (congrArg some (by kernel_rfl)),
  f233 := Tryd.func158.trans (congrArg some (by kernel_rfl)),
  f234 := Tryd.func159.trans (congrArg some (by kernel_rfl)),
  f235 := Tryd.func160.trans (congrArg some (by kernel_rfl)),
  f236 := Tryd.func161.trans (congrArg some (by kernel_rfl)),
  f260 := Tryd.func174.trans (congrArg some (by kernel_rfl)),
  f266 := Tryd.func182.trans (congrArg some (by kernel_rfl)),
  f271 := Tryd.func171.trans (congrArg some (by kernel_rfl)),
  t0 := Tryd.underlying0,
  a0 := Tryd.isAgg0,
  z0 := Tryd.sizeOf0,
  v0 := Tryd.zeroValue0,
  t3 := Tryd.underlying3,
  a3 := Tryd.isAgg3,
  z3 := Tryd.sizeOf3,
  v3 := Tryd.zeroValue3,
  t4 := Tryd.underlying4,
  a4 := Tryd.isAgg4,
  z4 := Tryd.sizeOf4,
  v4 := Tryd.zeroValue4,
  t5 := Tryd.underlying5,
  a5 := Tryd.isAgg5,
  z5 := Tryd.sizeOf5,
  v5 := Tryd.zeroValue5,
  t9 := Tryd.underlying9,
  a9 := Tryd.isAgg9,
  z9 := Tryd.sizeOf9,
  v9 := Tryd.zeroValue9,
  t21 := Tryd.underlying21,
  a21 := Tryd.isAgg21,
  z21 := Tryd.sizeOf21,
  v21 := Tryd.zeroValue21,
  t46 := Tryd.underlying164,
  a46 := Tryd.isAgg164,
  z46 := Tryd.sizeOf164,
  v46 := Tryd.zeroValue164,
  t105 := Tryd.underlying241,
  a105 := Tryd.isAgg241,
  z105 := Tryd.sizeOf241,
  v105 := Tryd.zeroValue241,
  t116 := Tryd.underlying220,
  a116 := Tryd.isAgg220,
  z116 := Tryd.sizeOf220,
  t117 := Tryd.underlying221,
  a117 := Tryd.isAgg221,
  z117 := Tryd.sizeOf221,
  v117 := Tryd.zeroValue221,
  t119 := Tryd.underlying246,
  a119 := Tryd.isAgg246,
  z119 := Tryd.sizeOf246,
  t124 := Tryd.underlying224,
  a124 := Tryd.isAgg224,
  z124 := Tryd.sizeOf224,
  v124 := Tryd.zeroValue224,
  t138 := Tryd.underlying248,
  a138 := Tryd.isAgg248,
  z138 := Tryd.sizeOf248,
  v138 := Tryd.zeroValue248,
  t139 := Tryd.underlying249,
  a139 := Tryd.isAgg249,
  z139 := Tryd.sizeOf249,
  v139 := Tryd.zeroValue249,
  g3 := by kernel_rfl,
  g4 := by kernel_rfl }
end Go.Proofs
namespace Go.Proofs.YtbdacbcpniegiaaDoor
open Go Go.RowKit Go.Proofs Go.Sx
def nameCs : List UInt8 := [97, 98, 99, 100, 101, 102, 103, 104, 105, 106, 107, 108, 109, 110, 111, 112, 113, 114, 115, 116, 117, 118, 119, 120, 121, 122, 48, 49, 50, 51, 52, 53, 54, 55, 56, 57, 45, 46, 47]
theorem trim_any (s : List UInt8) (hs : s.length ≤ 9223372036854775807) (w : World) : Calls Tryd.prog 140 #[.string (B s), .string (B nameCs)] w fun e w' => e = .returned (.string (B (Lib.trimS s nameCs))) ∧ Below w.heap.size w w' := by
  have h := Any.strings_Trim_laid Tryd.lays160 (by kernel_rfl) (B s) (B nameCs) w (by rw [B_size]; exact hs) (by decide) (ascii_of_all (by decide))
  exact h
end Go.Proofs.YtbdacbcpniegiaaDoor
namespace Go.Proofs.YtbdacbcpniegiaaDoor
open Go Go.RowKit Go.Proofs Go.Sx
set_option maxHeartbeats 4000000
set_option maxRecDepth 100000
set_option linter.unusedSimpArgs false
set_option linter.unusedVariables false
def nameB (s : List UInt8) : Bool := !(s == []) && decide ((s.length : Int) ≤ 64) && (Lib.trimS s nameCs == [])
theorem name_any (s : List UInt8) (hs : s.length ≤ 9223372036854775807) (w : World) : Calls Tryd.prog 101 #[.string (B s)] w fun e w' => e = .returned (.bool (nameB s)) ∧ Below w.heap.size w w' := by
  refine calls_pureK (args := [.string (B s)]) w Tryd.func101 rfl Tryd.ntmps101 (by simp) ?_
  intro X K hX hK
  have hnt : X.nt = 15 := by rw [hX]
  have hwi : X.wi = w := by rw [hX]
  have hP : X.P = Tryd.prog := by rw [hX]
  have hown : X.own = [] := by rw [hX]
  have hbl : X.base.length = 0 := by rw [hX]; rfl
  clear hX
  have hT : X.P.underlying 9 = some TypeDesc.string ∧ calleeOk X.P 140 = true := by rw [hP]; exact ⟨Tryd.underlying9, Ty.co140⟩
  repeat' (first
    | (refine SX.seqK ?_; intro N hN)
    | ((first | (refine SX.ops ?_)); simp only [GA, ↓GB, List.filterMap_cons, eq_self, BEq.rfl, simprocAttr, hnt, hT])
    | ((first | refine SX.skip ?_ | refine SX.exit ?_ | refine SX.label ?_); try simp only [GA, ↓GB, List.filterMap_cons, eq_self, BEq.rfl, simprocAttr])
    | (refine SX.cond rfl (fun hb => ?_) (fun hb => ?_) <;> ((first | cases hb | (simp only [decide_eq_true_eq, decide_eq_false_iff_not, beq_iff_eq, beq_eq_false_iff_ne, bne_iff_ne, Bool.and_eq_true, Bool.or_eq_true, Bool.not_eq_true', Bool.not_eq_false', Bool.and_eq_false_iff, Bool.or_eq_false_iff, Int.not_lt, Int.not_le] at hb) | skip) <;> (first | (exfalso; omega) | skip)))
    | (refine SX.ret ?_; try simp only [GA, ↓GB, List.filterMap_cons, eq_self, BEq.rfl, simprocAttr])
    | (refine hN _ ?_; clear hN N)
    | (refine hK _ _ (Fin.res rfl hown ?_); simp only [GA, ↓GB, List.filterMap_cons, eq_self, BEq.rfl, simprocAttr, f_a, f_b, f_n, f_c, f_B, f_v, f_g, f_0, f_1, f_2, hT, hwi]; intro w' hbel; refine Done.out ?_)
    | (clear hN N; first | (refine hN _ ?_; clear hN N) | (clear hN N; first | (refine hN _ ?_; clear hN N) | (clear hN N; first | (refine hN _ ?_; clear hN N) | (clear hN N; first | (refine hN _ ?_; clear hN N) | (clear hN N; first | (refine hN _ ?_; clear hN N) | (refine hN _ ?_; clear hN N))))))
    | (refine bif2.mk (fun hb => ?_) (fun hb => ?_) <;> (try simp only [hb, GA, ↓GB, List.filterMap_cons, eq_self, BEq.rfl, simprocAttr, hnt, hT]) <;> ((first | cases hb | (simp only [decide_eq_true_eq, decide_eq_false_iff_not, beq_iff_eq, beq_eq_false_iff_ne, bne_iff_ne, Bool.and_eq_true, Bool.or_eq_true, Bool.not_eq_true', Bool.not_eq_false', Bool.and_eq_false_iff, Bool.or_eq_false_iff, Int.not_lt, Int.not_le] at hb) | skip) <;> (first | (exfalso; omega) | skip)))
    | ((first | (refine CallVC.pv hP (trim_any _ (by omega)) rfl ?_) | (refine CallQ.pv hP (trim_any _ (by omega)) rfl ?_)); simp only [GA, ↓GB, List.filterMap_cons, eq_self, BEq.rfl, simprocAttr, hnt, hT])
    | (refine SX.block ?_)
    | (refine and_mk ?_ ?_; (focus first | decide | omega | rfl | assumption | (simp only [List.length_append, List.length_cons, List.length_nil, B_size]; omega) | (simp; done)))
    | (refine And.intro ?_ ?_))
  all_goals (try refine Done.mk ?_)
  all_goals (refine ⟨?_, hbel⟩; simp_all [nameB] <;> (intros; omega))
def keyB (t : Int) (s : List UInt8) : Bool := decide (1 ≤ t) && decide (t ≤ 5) && (s == [42] || nameB s)
theorem key_any (t : Int) (s : List UInt8) (hs : s.length ≤ 9223372036854775807) (w : World) : Calls Tryd.prog 78 #[.agg #[.int .i64 t, .string (B s)]] w fun e w' => e = .returned (.bool (keyB t s)) ∧ Below w.heap.size w w' := by
  refine calls_pureK (args := [.agg #[.int .i64 t, .string (B s)]]) w Tryd.func78 rfl Tryd.ntmps78 (by simp) ?_
  intro X K hX hK
  have hnt : X.nt = 21 := by rw [hX]
  have hwi : X.wi = w := by rw [hX]
  have hP : X.P = Tryd.prog := by rw [hX]
  have hown : X.own = [] := by rw [hX]
  have hbl : X.base.length = 0 := by rw [hX]; rfl
  clear hX
  have hT : fieldOff X.P 26 0 = some 0 ∧ aggOf X.P 3 = some false ∧ szOf X.P 3 = some 1 ∧ fieldOff X.P 26 1 = some 1 ∧ aggOf X.P 9 = some false ∧ szOf X.P 9 = some 1 ∧ calleeOk X.P 101 = true := by rw [hP]; exact ⟨Ty.fo26_0, Ty.ag3, Ty.sz3, Ty.fo26_1, Ty.ag9, Ty.sz9, Ty.co101⟩
  repeat' (first
    | (refine SX.seqK ?_; intro N hN)
    | ((first | (refine SX.ops ?_)); simp only [GA, ↓GB, List.filterMap_cons, eq_self, BEq.rfl, simprocAttr, hnt, hT])
    | ((first | refine SX.skip ?_ | refine SX.exit ?_ | refine SX.label ?_); try simp only [GA, ↓GB, List.filterMap_cons, eq_self, BEq.rfl, simprocAttr])
    | (refine SX.cond rfl (fun hb => ?_) (fun hb => ?_) <;> ((first | cases hb | (simp only [decide_eq_true_eq, decide_eq_false_iff_not, beq_iff_eq, beq_eq_false_iff_ne, bne_iff_ne, Bool.and_eq_true, Bool.or_eq_true, Bool.not_eq_true', Bool.not_eq_false', Bool.and_eq_false_iff, Bool.or_eq_false_iff, Int.not_lt, Int.not_le] at hb) | skip) <;> (first | (exfalso; omega) | skip)))
    | (refine SX.ret ?_; try simp only [GA, ↓GB, List.filterMap_cons, eq_self, BEq.rfl, simprocAttr])
    | (refine hN _ ?_; clear hN N)
    | (refine hK _ _ (Fin.res rfl hown ?_); simp only [GA, ↓GB, List.filterMap_cons, eq_self, BEq.rfl, simprocAttr, f_a, f_b, f_n, f_c, f_B, f_v, f_g, f_0, f_1, f_2, hT, hwi]; intro w' hbel; refine Done.out ?_)
    | (clear hN N; first | (refine hN _ ?_; clear hN N) | (clear hN N; first | (refine hN _ ?_; clear hN N) | (clear hN N; first | (refine hN _ ?_; clear hN N) | (clear hN N; first | (refine hN _ ?_; clear hN N) | (clear hN N; first | (refine hN _ ?_; clear hN N) | (refine hN _ ?_; clear hN N))))))
    | (refine bif2.mk (fun hb => ?_) (fun hb => ?_) <;> (try simp only [hb, GA, ↓GB, List.filterMap_cons, eq_self, BEq.rfl, simprocAttr, hnt, hT]) <;> ((first | cases hb | (simp only [decide_eq_true_eq, decide_eq_false_iff_not, beq_iff_eq, beq_eq_false_iff_ne, bne_iff_ne, Bool.and_eq_true, Bool.or_eq_true, Bool.not_eq_true', Bool.not_eq_false', Bool.and_eq_false_iff, Bool.or_eq_false_iff, Int.not_lt, Int.not_le] at hb) | skip) <;> (first | (exfalso; omega) | skip)))
    | ((first | (refine CallVC.pv hP (name_any _ hs) rfl ?_) | (refine CallQ.pv hP (name_any _ hs) rfl ?_)); simp only [GA, ↓GB, List.filterMap_cons, eq_self, BEq.rfl, simprocAttr, hnt, hT])
    | (refine SX.block ?_)
    | (refine and_mk ?_ ?_; (focus first | decide | omega | rfl | assumption | (simp only [List.length_append, List.length_cons, List.length_nil, B_size]; omega) | (simp; done)))
    | (refine And.intro ?_ ?_))
  all_goals (try refine Done.mk ?_)
  all_goals (refine ⟨?_, hbel⟩; simp_all [keyB] <;> (intros; omega))
end Go.Proofs.YtbdacbcpniegiaaDoor
namespace Go.Proofs.YtbdacbcpniegiaaDoor
open Go Go.RowKit Go.Proofs Go.Sx
set_option maxHeartbeats 4000000
set_option maxRecDepth 100000
set_option linter.unusedSimpArgs false
set_option linter.unusedVariables false
end Go.Proofs.YtbdacbcpniegiaaDoor
namespace Go.Proofs.YtbdacbcpniegiaaDoor
open Go Go.RowKit Go.Proofs Go.Sx
set_option maxHeartbeats 4000000
set_option maxRecDepth 100000
set_option linter.unusedSimpArgs false
set_option linter.unusedVariables false
def numB (num n : Nat) : List UInt8 := NW.varint (num * 8) ++ NW.varint n
def textB (num : Nat) (s : List UInt8) : List UInt8 := NW.varint (num * 8 + 2) ++ NW.varint s.length ++ s
theorem put_num (num n : Nat) (h1 : 1 ≤ num) (h2 : num < 536870912) (hn : n < 18446744073709551616) (w : World) :
    Calls Tryd.prog 74 #[.agg #[.int .i64 num, .int .i64 0, .int .u64 n, .string (B [])]] w fun e w' => e = .returned (.tuple #[.string (B (numB num n)), .bool true]) ∧ Below w.heap.size w w' := by
  have g1 : decide ((num : Int) < 1) = false := by simp; omega
  have g2 : decide ((536870912 : Int) ≤ num) = false := by simp; omega
  have hl1 := NW.varint_len10 (n := num * 8) (by omega)
  have hl2 := NW.varint_len10 (n := n) (by omega)
  have e1 : IntKind.u64.wrap (IntKind.i64.wrap (IntKind.i64.wrap ((num : Int) * 8) + 0)) = ((num * 8 : Nat) : Int) := by
    rw [wI64 (x := (num : Int) * 8) (by omega) (by omega), wI64 (by omega) (by omega), wU64 (by omega) (by omega)]; omega
  refine calls_pureK (args := [.agg #[.int .i64 num, .int .i64 0, .int .u64 n, .string (B [])]]) w Tryd.func74 rfl Tryd.ntmps74 (by simp) ?_
  intro X K hX hK
  have hnt : X.nt = 81 := by rw [hX]
  have hwi : X.wi = w := by rw [hX]
  have hP : X.P = Tryd.prog := by rw [hX]
  have hown : X.own = [] := by rw [hX]
  have hbl : X.base.length = 0 := by rw [hX]; rfl
  clear hX
  have hT : fieldOff X.P 143 0 = some 0 ∧ aggOf X.P 3 = some false ∧ szOf X.P 3 = some 1 ∧ fieldOff X.P 143 1 = some 1 ∧ fieldOff X.P 143 2 = some 2 ∧ aggOf X.P 22 = some false ∧ szOf X.P 22 = some 1 ∧ calleeOk X.P 127 = true ∧ mapInf X.P 174 = some ((TypeDesc.int IntKind.i64), (Value.int IntKind.i64 0)) ∧ fieldOff X.P 143 3 = some 3 ∧ aggOf X.P 9 = some false ∧ szOf X.P 9 = some 1 ∧ X.P.underlying 9 = some TypeDesc.string ∧ X.P.underlying 3 = some (TypeDesc.int IntKind.i64) ∧ X.P.underlying 22 = some (TypeDesc.int IntKind.u64) ∧ isBytesT X.P 3 = false ∧ isStrT X.P 22 = false ∧ calleeOk X.P 128 = true := by rw [hP]; exact ⟨Ty.fo143_0, Ty.ag3, Ty.sz3, Ty.fo143_1, Ty.fo143_2, Ty.ag22, Ty.sz22, Ty.co127, Ty.mi174, Ty.fo143_3, Ty.ag9, Ty.sz9, Tryd.underlying9, Tryd.underlying3, Tryd.underlying22, Ty.ib3, Ty.is22, Ty.co128⟩
  have hnt1 := True.intro; have hT1 := True.intro; have hU1P := True.intro
  repeat' (first
    | (refine SX.seqK ?_; intro N hN)
    | ((first | (refine SX.ops ?_)); simp only [GA, ↓GB, List.filterMap_cons, eq_self, BEq.rfl, simprocAttr, hnt, hT, hnt1, hT1, hU1P, g1, g2, e1])
    | ((first | refine SX.skip ?_ | refine SX.exit ?_ | refine SX.label ?_); try simp only [GA, ↓GB, List.filterMap_cons, eq_self, BEq.rfl, simprocAttr])
    | (refine SX.cond rfl (fun hb => ?_) (fun hb => ?_) <;> ((first | cases hb | (simp only [decide_eq_true_eq, decide_eq_false_iff_not, beq_iff_eq, beq_eq_false_iff_ne, bne_iff_ne, Bool.and_eq_true, Bool.or_eq_true, Bool.not_eq_true', Bool.not_eq_false', Bool.and_eq_false_iff, Bool.or_eq_false_iff, Int.not_lt, Int.not_le] at hb) | skip) <;> (first | (exfalso; omega) | skip)))
    | (refine SX.ret ?_; try simp only [GA, ↓GB, List.filterMap_cons, eq_self, BEq.rfl, simprocAttr])
    | (refine hN _ ?_; clear hN N)
    | ((first | refine hK1 _ _ (FinI.ret3 ?_) | refine hK1 _ _ (FinI.nrm3 ?_)); (repeat (clear hN N)); clear hK1 K1; simp only [GA, ↓GB, List.filterMap_cons, eq_self, BEq.rfl, simprocAttr, finP_s, hnt, hT, hnt1, hT1, hU1P, g1, g2, e1])
    | (refine hK _ _ (Fin.res rfl hown ?_); simp only [GA, ↓GB, List.filterMap_cons, eq_self, BEq.rfl, simprocAttr, f_a, f_b, f_n, f_c, f_B, f_v, f_g, f_0, f_1, f_2, hT, hwi, hnt1, hT1, hU1P, g1, g2, e1]; intro w' hbel; refine Done.out ?_)
    | (clear hN N; first | (refine hN _ ?_; clear hN N) | (clear hN N; first | (refine hN _ ?_; clear hN N) | (clear hN N; first | (refine hN _ ?_; clear hN N) | (clear hN N; first | (refine hN _ ?_; clear hN N) | (clear hN N; first | (refine hN _ ?_; clear hN N) | (refine hN _ ?_; clear hN N))))))
    | (refine bif2.mk (fun hb => ?_) (fun hb => ?_) <;> (try simp only [hb, GA, ↓GB, List.filterMap_cons, eq_self, BEq.rfl, simprocAttr, hnt, hT, hnt1, hT1, hU1P, g1, g2, e1]) <;> ((first | cases hb | (simp only [decide_eq_true_eq, decide_eq_false_iff_not, beq_iff_eq, beq_eq_false_iff_ne, bne_iff_ne, Bool.and_eq_true, Bool.or_eq_true, Bool.not_eq_true', Bool.not_eq_false', Bool.and_eq_false_iff, Bool.or_eq_false_iff, Int.not_lt, Int.not_le] at hb) | skip) <;> (first | (exfalso; omega) | skip)))
    | ((first | (refine CallVC.pv hP (varint_any (num * 8) (by omega)) rfl ?_) | (refine CallQ.pv hP (varint_any (num * 8) (by omega)) rfl ?_) | (refine CallVC.pv hP (varint_any n hn) rfl ?_) | (refine CallQ.pv hP (varint_any n hn) rfl ?_)); simp only [GA, ↓GB, List.filterMap_cons, eq_self, BEq.rfl, simprocAttr, hnt, hT, hnt1, hT1, hU1P, g1, g2, e1])
    | (refine CallVC.inline (f := 127) ?_ rfl Tryd.ntmps127 rfl ?_ ?_; (focus rw [hP]; exact Tryd.func127); (focus simp); have hT1 : mapInf X.P 174 = some ((TypeDesc.int IntKind.i64), (Value.int IntKind.i64 0)) := (by rw [hP]; exact Ty.mi174); intro X1 K1 hU1 hnt1 hbl1 hK1; have hU1P := hU1.P; simp only [GA, ↓GB, List.filterMap_cons, eq_self, BEq.rfl, simprocAttr] at hbl1 ⊢)
    | ((first | (refine CallVC.pv (hU1P.trans hP) (varint_any (num * 8) (by omega)) rfl ?_) | (refine CallQ.pv (hU1P.trans hP) (varint_any (num * 8) (by omega)) rfl ?_) | (refine CallVC.pv (hU1P.trans hP) (varint_any n hn) rfl ?_) | (refine CallQ.pv (hU1P.trans hP) (varint_any n hn) rfl ?_)); simp only [GA, ↓GB, List.filterMap_cons, eq_self, BEq.rfl, simprocAttr, hnt, hT, hnt1, hT1, hU1P, g1, g2, e1])
    | (refine SX.block ?_)
    | (refine and_mk ?_ ?_; (focus first | decide | omega | rfl | assumption | (simp only [List.length_append, List.length_cons, List.length_nil, B_size]; omega) | (simp; done)))
    | (refine And.intro ?_ ?_))
  all_goals (try refine Done.mk ?_)
  all_goals first | exact hbel | exact ⟨by simp [numB], hbel⟩
theorem put_text (num : Nat) (s : List UInt8) (h1 : 1 ≤ num) (h2 : num < 536870912) (hs : s.length < 1152921504606846976) (w : World) :
    Calls Tryd.prog 74 #[.agg #[.int .i64 num, .int .i64 2, .int .u64 0, .string (B s)]] w fun e w' => e = .returned (.tuple #[.string (B (textB num s)), .bool true]) ∧ Below w.heap.size w w' := by
  have g1 : decide ((num : Int) < 1) = false := by simp; omega
  have g2 : decide ((536870912 : Int) ≤ num) = false := by simp; omega
  have hl1 := NW.varint_len10 (n := num * 8 + 2) (by omega)
  have hl2 := NW.varint_len10 (n := s.length) (by omega)
  have e1 : IntKind.u64.wrap (IntKind.i64.wrap (IntKind.i64.wrap ((num : Int) * 8) + 2)) = ((num * 8 + 2 : Nat) : Int) := by
    rw [wI64 (x := (num : Int) * 8) (by omega) (by omega), wI64 (by omega) (by omega), wU64 (by omega) (by omega)]; omega
  have e2 : IntKind.u64.wrap (s.length : Int) = (s.length : Int) := wU64 (by omega) (by omega)
  refine calls_pureK (args := [.agg #[.int .i64 num, .int .i64 2, .int .u64 0, .string (B s)]]) w Tryd.func74 rfl Tryd.ntmps74 (by simp) ?_
  intro X K hX hK
  have hnt : X.nt = 81 := by rw [hX]
  have hwi : X.wi = w := by rw [hX]
  have hP : X.P = Tryd.prog := by rw [hX]
  have hown : X.own = [] := by rw [hX]
  have hbl : X.base.length = 0 := by rw [hX]; rfl
  clear hX
  have hT : fieldOff X.P 143 0 = some 0 ∧ aggOf X.P 3 = some false ∧ szOf X.P 3 = some 1 ∧ fieldOff X.P 143 1 = some 1 ∧ fieldOff X.P 143 2 = some 2 ∧ aggOf X.P 22 = some false ∧ szOf X.P 22 = some 1 ∧ calleeOk X.P 127 = true ∧ mapInf X.P 174 = some ((TypeDesc.int IntKind.i64), (Value.int IntKind.i64 0)) ∧ fieldOff X.P 143 3 = some 3 ∧ aggOf X.P 9 = some false ∧ szOf X.P 9 = some 1 ∧ X.P.underlying 9 = some TypeDesc.string ∧ X.P.underlying 3 = some (TypeDesc.int IntKind.i64) ∧ X.P.underlying 22 = some (TypeDesc.int IntKind.u64) ∧ isBytesT X.P 3 = false ∧ isStrT X.P 22 = false ∧ calleeOk X.P 128 = true := by rw [hP]; exact ⟨Ty.fo143_0, Ty.ag3, Ty.sz3, Ty.fo143_1, Ty.fo143_2, Ty.ag22, Ty.sz22, Ty.co127, Ty.mi174, Ty.fo143_3, Ty.ag9, Ty.sz9, Tryd.underlying9, Tryd.underlying3, Tryd.underlying22, Ty.ib3, Ty.is22, Ty.co128⟩
  have hnt1 := True.intro; have hT1 := True.intro; have hU1P := True.intro
  repeat' (first
    | (refine SX.seqK ?_; intro N hN)
    | ((first | (refine SX.ops ?_)); simp only [GA, ↓GB, List.filterMap_cons, eq_self, BEq.rfl, simprocAttr, hnt, hT, hnt1, hT1, hU1P, g1, g2, e1, e2])
    | ((first | refine SX.skip ?_ | refine SX.exit ?_ | refine SX.label ?_); try simp only [GA, ↓GB, List.filterMap_cons, eq_self, BEq.rfl, simprocAttr])
    | (refine SX.cond rfl (fun hb => ?_) (fun hb => ?_) <;> ((first | cases hb | (simp only [decide_eq_true_eq, decide_eq_false_iff_not, beq_iff_eq, beq_eq_false_iff_ne, bne_iff_ne, Bool.and_eq_true, Bool.or_eq_true, Bool.not_eq_true', Bool.not_eq_false', Bool.and_eq_false_iff, Bool.or_eq_false_iff, Int.not_lt, Int.not_le] at hb) | skip) <;> (first | (exfalso; omega) | skip)))
    | (refine SX.ret ?_; try simp only [GA, ↓GB, List.filterMap_cons, eq_self, BEq.rfl, simprocAttr])
    | (refine hN _ ?_; clear hN N)
    | ((first | refine hK1 _ _ (FinI.ret3 ?_) | refine hK1 _ _ (FinI.nrm3 ?_)); (repeat (clear hN N)); clear hK1 K1; simp only [GA, ↓GB, List.filterMap_cons, eq_self, BEq.rfl, simprocAttr, finP_s, hnt, hT, hnt1, hT1, hU1P, g1, g2, e1, e2])
    | (refine hK _ _ (Fin.res rfl hown ?_); simp only [GA, ↓GB, List.filterMap_cons, eq_self, BEq.rfl, simprocAttr, f_a, f_b, f_n, f_c, f_B, f_v, f_g, f_0, f_1, f_2, hT, hwi, hnt1, hT1, hU1P, g1, g2, e1, e2]; intro w' hbel; refine Done.out ?_)
    | (clear hN N; first | (refine hN _ ?_; clear hN N) | (clear hN N; first | (refine hN _ ?_; clear hN N) | (clear hN N; first | (refine hN _ ?_; clear hN N) | (clear hN N; first | (refine hN _ ?_; clear hN N) | (clear hN N; first | (refine hN _ ?_; clear hN N) | (refine hN _ ?_; clear hN N))))))
    | (refine bif2.mk (fun hb => ?_) (fun hb => ?_) <;> (try simp only [hb, GA, ↓GB, List.filterMap_cons, eq_self, BEq.rfl, simprocAttr, hnt, hT, hnt1, hT1, hU1P, g1, g2, e1, e2]) <;> ((first | cases hb | (simp only [decide_eq_true_eq, decide_eq_false_iff_not, beq_iff_eq, beq_eq_false_iff_ne, bne_iff_ne, Bool.and_eq_true, Bool.or_eq_true, Bool.not_eq_true', Bool.not_eq_false', Bool.and_eq_false_iff, Bool.or_eq_false_iff, Int.not_lt, Int.not_le] at hb) | skip) <;> (first | (exfalso; omega) | skip)))
    | ((first | (refine CallVC.pv hP (varint_any (num * 8 + 2) (by omega)) rfl ?_) | (refine CallQ.pv hP (varint_any (num * 8 + 2) (by omega)) rfl ?_) | (refine CallVC.pv hP (varint_any s.length (by omega)) rfl ?_) | (refine CallQ.pv hP (varint_any s.length (by omega)) rfl ?_)); simp only [GA, ↓GB, List.filterMap_cons, eq_self, BEq.rfl, simprocAttr, hnt, hT, hnt1, hT1, hU1P, g1, g2, e1, e2])
    | (refine CallVC.inline (f := 127) ?_ rfl Tryd.ntmps127 rfl ?_ ?_; (focus rw [hP]; exact Tryd.func127); (focus simp); have hT1 : mapInf X.P 174 = some ((TypeDesc.int IntKind.i64), (Value.int IntKind.i64 0)) := (by rw [hP]; exact Ty.mi174); intro X1 K1 hU1 hnt1 hbl1 hK1; have hU1P := hU1.P; simp only [GA, ↓GB, List.filterMap_cons, eq_self, BEq.rfl, simprocAttr] at hbl1 ⊢)
    | ((first | (refine CallVC.pv (hU1P.trans hP) (varint_any (num * 8 + 2) (by omega)) rfl ?_) | (refine CallQ.pv (hU1P.trans hP) (varint_any (num * 8 + 2) (by omega)) rfl ?_) | (refine CallVC.pv (hU1P.trans hP) (varint_any s.length (by omega)) rfl ?_) | (refine CallQ.pv (hU1P.trans hP) (varint_any s.length (by omega)) rfl ?_)); simp only [GA, ↓GB, List.filterMap_cons, eq_self, BEq.rfl, simprocAttr, hnt, hT, hnt1, hT1, hU1P, g1, g2, e1, e2])
    | (refine SX.block ?_)
    | (refine and_mk ?_ ?_; (focus first | decide | omega | rfl | assumption | (simp only [List.length_append, List.length_cons, List.length_nil, B_size]; omega) | (simp; done)))
    | (refine And.intro ?_ ?_))
  all_goals (try refine Done.mk ?_)
  all_goals first | exact hbel | exact ⟨by simp [textB], hbel⟩
theorem number_any (num n : Nat) (h1 : 1 ≤ num) (h2 : num < 536870912) (hn : n < 18446744073709551616) (w : World) :
    Calls Tryd.prog 23 #[.int .i64 num, .int .u64 n] w fun e w' => e = .returned (.string (B (numB num n))) ∧ Below w.heap.size w w' := by
  refine calls_pureK (args := [.int .i64 num, .int .u64 n]) w Tryd.func23 rfl Tryd.ntmps23 (by simp) ?_
  intro X K hX hK
  have hnt : X.nt = 15 := by rw [hX]
  have hwi : X.wi = w := by rw [hX]
  have hP : X.P = Tryd.prog := by rw [hX]
  have hown : X.own = [] := by rw [hX]
  have hbl : X.base.length = 0 := by rw [hX]; rfl
  clear hX
  have hT : fieldsOf X.P 143 = some [(0, 1), (1, 1), (2, 1), (3, 1)] ∧ zeroCells X.P 143 = some [(Value.int IntKind.i64 0), (Value.int IntKind.i64 0), (Value.int IntKind.u64 0), (Value.string { data := #[] })] ∧ calleeOk X.P 74 = true := by rw [hP]; exact ⟨Ty.fs143, Ty.ze143, Ty.co74⟩
  repeat' (first
    | (refine SX.seqK ?_; intro N hN)
    | ((first | (refine SX.ops ?_)); simp only [GA, ↓GB, List.filterMap_cons, eq_self, BEq.rfl, simprocAttr, hnt, hT])
    | ((first | refine SX.skip ?_ | refine SX.exit ?_ | refine SX.label ?_); try simp only [GA, ↓GB, List.filterMap_cons, eq_self, BEq.rfl, simprocAttr])
    | (refine SX.cond rfl (fun hb => ?_) (fun hb => ?_) <;> ((first | cases hb | (simp only [decide_eq_true_eq, decide_eq_false_iff_not, beq_iff_eq, beq_eq_false_iff_ne, bne_iff_ne, Bool.and_eq_true, Bool.or_eq_true, Bool.not_eq_true', Bool.not_eq_false', Bool.and_eq_false_iff, Bool.or_eq_false_iff, Int.not_lt, Int.not_le] at hb) | skip) <;> (first | (exfalso; omega) | skip)))
    | (refine SX.ret ?_; try simp only [GA, ↓GB, List.filterMap_cons, eq_self, BEq.rfl, simprocAttr])
    | (refine hN _ ?_; clear hN N)
    | (refine hK _ _ (Fin.res rfl hown ?_); simp only [GA, ↓GB, List.filterMap_cons, eq_self, BEq.rfl, simprocAttr, f_a, f_b, f_n, f_c, f_B, f_v, f_g, f_0, f_1, f_2, hT, hwi]; intro w' hbel; refine Done.out ?_)
    | (clear hN N; first | (refine hN _ ?_; clear hN N) | (clear hN N; first | (refine hN _ ?_; clear hN N) | (clear hN N; first | (refine hN _ ?_; clear hN N) | (clear hN N; first | (refine hN _ ?_; clear hN N) | (clear hN N; first | (refine hN _ ?_; clear hN N) | (refine hN _ ?_; clear hN N))))))
    | (refine bif2.mk (fun hb => ?_) (fun hb => ?_) <;> (try simp only [hb, GA, ↓GB, List.filterMap_cons, eq_self, BEq.rfl, simprocAttr, hnt, hT]) <;> ((first | cases hb | (simp only [decide_eq_true_eq, decide_eq_false_iff_not, beq_iff_eq, beq_eq_false_iff_ne, bne_iff_ne, Bool.and_eq_true, Bool.or_eq_true, Bool.not_eq_true', Bool.not_eq_false', Bool.and_eq_false_iff, Bool.or_eq_false_iff, Int.not_lt, Int.not_le] at hb) | skip) <;> (first | (exfalso; omega) | skip)))
    | ((first | (refine CallVC.pt (l := [_, _]) hP (put_num num n h1 h2 hn) rfl ?_) | (refine CallQ.pt (l := [_, _]) hP (put_num num n h1 h2 hn) rfl ?_)); simp only [GA, ↓GB, List.filterMap_cons, eq_self, BEq.rfl, simprocAttr, hnt, hT])
    | (refine SX.block ?_)
    | (refine and_mk ?_ ?_; (focus first | decide | omega | rfl | assumption | (simp only [List.length_append, List.length_cons, List.length_nil, B_size]; omega) | (simp; done)))
    | (refine And.intro ?_ ?_))
  all_goals (try refine Done.mk ?_)
  all_goals first | exact hbel | exact ⟨rfl, hbel⟩
theorem text_any (num : Nat) (s : List UInt8) (h1 : 1 ≤ num) (h2 : num < 536870912) (hs : s.length < 1152921504606846976) (w : World) :
    Calls Tryd.prog 104 #[.int .i64 num, .string (B s)] w fun e w' => e = .returned (.string (B (textB num s))) ∧ Below w.heap.size w w' := by
  refine calls_pureK (args := [.int .i64 num, .string (B s)]) w Tryd.func104 rfl Tryd.ntmps104 (by simp) ?_
  intro X K hX hK
  have hnt : X.nt = 13 := by rw [hX]
  have hwi : X.wi = w := by rw [hX]
  have hP : X.P = Tryd.prog := by rw [hX]
  have hown : X.own = [] := by rw [hX]
  have hbl : X.base.length = 0 := by rw [hX]; rfl
  clear hX
  have hT : fieldsOf X.P 143 = some [(0, 1), (1, 1), (2, 1), (3, 1)] ∧ zeroCells X.P 143 = some [(Value.int IntKind.i64 0), (Value.int IntKind.i64 0), (Value.int IntKind.u64 0), (Value.string { data := #[] })] ∧ calleeOk X.P 74 = true := by rw [hP]; exact ⟨Ty.fs143, Ty.ze143, Ty.co74⟩
  repeat' (first
    | (refine SX.seqK ?_; intro N hN)
    | ((first | (refine SX.ops ?_)); simp only [GA, ↓GB, List.filterMap_cons, eq_self, BEq.rfl, simprocAttr, hnt, hT])
    | ((first | refine SX.skip ?_ | refine SX.exit ?_ | refine SX.label ?_); try simp only [GA, ↓GB, List.filterMap_cons, eq_self, BEq.rfl, simprocAttr])
    | (refine SX.cond rfl (fun hb => ?_) (fun hb => ?_) <;> ((first | cases hb | (simp only [decide_eq_true_eq, decide_eq_false_iff_not, beq_iff_eq, beq_eq_false_iff_ne, bne_iff_ne, Bool.and_eq_true, Bool.or_eq_true, Bool.not_eq_true', Bool.not_eq_false', Bool.and_eq_false_iff, Bool.or_eq_false_iff, Int.not_lt, Int.not_le] at hb) | skip) <;> (first | (exfalso; omega) | skip)))
    | (refine SX.ret ?_; try simp only [GA, ↓GB, List.filterMap_cons, eq_self, BEq.rfl, simprocAttr])
    | (refine hN _ ?_; clear hN N)
    | (refine hK _ _ (Fin.res rfl hown ?_); simp only [GA, ↓GB, List.filterMap_cons, eq_self, BEq.rfl, simprocAttr, f_a, f_b, f_n, f_c, f_B, f_v, f_g, f_0, f_1, f_2, hT, hwi]; intro w' hbel; refine Done.out ?_)
    | (clear hN N; first | (refine hN _ ?_; clear hN N) | (clear hN N; first | (refine hN _ ?_; clear hN N) | (clear hN N; first | (refine hN _ ?_; clear hN N) | (clear hN N; first | (refine hN _ ?_; clear hN N) | (clear hN N; first | (refine hN _ ?_; clear hN N) | (refine hN _ ?_; clear hN N))))))
    | (refine bif2.mk (fun hb => ?_) (fun hb => ?_) <;> (try simp only [hb, GA, ↓GB, List.filterMap_cons, eq_self, BEq.rfl, simprocAttr, hnt, hT]) <;> ((first | cases hb | (simp only [decide_eq_true_eq, decide_eq_false_iff_not, beq_iff_eq, beq_eq_false_iff_ne, bne_iff_ne, Bool.and_eq_true, Bool.or_eq_true, Bool.not_eq_true', Bool.not_eq_false', Bool.and_eq_false_iff, Bool.or_eq_false_iff, Int.not_lt, Int.not_le] at hb) | skip) <;> (first | (exfalso; omega) | skip)))
    | ((first | (refine CallVC.pt (l := [_, _]) hP (put_text num s h1 h2 hs) rfl ?_) | (refine CallQ.pt (l := [_, _]) hP (put_text num s h1 h2 hs) rfl ?_)); simp only [GA, ↓GB, List.filterMap_cons, eq_self, BEq.rfl, simprocAttr, hnt, hT])
    | (refine SX.block ?_)
    | (refine and_mk ?_ ?_; (focus first | decide | omega | rfl | assumption | (simp only [List.length_append, List.length_cons, List.length_nil, B_size]; omega) | (simp; done)))
    | (refine And.intro ?_ ?_))
  all_goals (try refine Done.mk ?_)
  all_goals first | exact hbel | exact ⟨rfl, hbel⟩
end Go.Proofs.YtbdacbcpniegiaaDoor
namespace Go.Proofs.YtbdacbcpniegiaaDoor
open Go Go.RowKit Go.Proofs Go.Sx
set_option maxHeartbeats 4000000
set_option maxRecDepth 100000
set_option linter.unusedSimpArgs false
set_option linter.unusedVariables false
end Go.Proofs.YtbdacbcpniegiaaDoor
namespace Go.Proofs.YtbdacbcpniegiaaDoor
open Go Go.RowKit Go.Proofs Go.Sx
set_option maxHeartbeats 4000000
set_option maxRecDepth 100000
set_option linter.unusedSimpArgs false
set_option linter.unusedVariables false
end Go.Proofs.YtbdacbcpniegiaaDoor
namespace Go.Proofs.YtbdacbcpniegiaaDoor
open Go Go.RowKit Go.Proofs Go.Sx
set_option maxHeartbeats 4000000
set_option maxRecDepth 100000
set_option linter.unusedSimpArgs false
set_option linter.unusedVariables false
theorem numB_len (num n : Nat) (h1 : num < 536870912) (hn : n < 18446744073709551616) : (numB num n).length ≤ 20 := by
  have hl1 := NW.varint_len10 (n := num * 8) (by omega)
  have hl2 := NW.varint_len10 (n := n) (by omega)
  simp [numB]; omega
theorem textB_len (num : Nat) (s : List UInt8) (h1 : num < 536870912) (hs : s.length < 4294967296) : (textB num s).length ≤ 20 + s.length := by
  have hl1 := NW.varint_len10 (n := num * 8 + 2) (by omega)
  have hl2 := NW.varint_len10 (n := s.length) (by omega)
  simp [textB]; omega
end Go.Proofs.YtbdacbcpniegiaaDoor
namespace Go.Proofs.YtbdacbcpniegiaaDoor
open Go Go.RowKit Go.Proofs Go.Sx
set_option maxHeartbeats 4000000
set_option maxRecDepth 100000
set_option linter.unusedSimpArgs false
set_option linter.unusedVariables false
end Go.Proofs.YtbdacbcpniegiaaDoor
namespace Go.Sx
open Go Go.RowKit Go.MapKept
set_option linter.unusedVariables false
set_option linter.unusedSimpArgs false
inductive Put (k : Value) (s : S1) : List (Value × S1) → List (Value × S1) → Prop
  | nil : Put k s [] [(k, s)]
  | hit {p es} : k = p.1 → Put k s (p :: es) ((k, s) :: es)
  | miss {p es es'} : k ≠ p.1 → Put k s es es' → Put k s (p :: es) (p :: es')
theorem sameBits_key {d : TypeDesc} {k : Value} (hk : KeyOf d k = true) : Instr.sameBits 10000 k k = true := by
  unfold KeyOf at hk
  split at hk
  · simp [Instr.sameBits]
  · unfold Instr.sameBits; exact (bytes_beq _ _).2 rfl
  · cases hk
abbrev MR (σ : List Value) (p : Value × S1) (m : MapEntry) : Prop := m.key = p.1 ∧ D1 σ p.2 m.val
theorem findNow_put {σ : List Value} {d : TypeDesc} {k v : Value} {s : S1} (hk : KeyOf d k = true) (hd : D1 σ s v) : ∀ {es es' : List (Value × S1)} {ms : List MapEntry} (i : Nat),
    All2 (MR σ) es ms → (es.all fun p => KeyOf d p.1) = true → Put k s es es' →
    (Instr.findNow d k ms i = some none ∧ ∀ clock, All2 (MR σ) es' (ms ++ [⟨k, v, clock⟩])) ∨
    (∃ j v0 e0, Instr.findNow d k ms i = some (some (i + j, v0)) ∧ ms[j]? = some e0 ∧ e0.key = k ∧ All2 (MR σ) es' (ms.modify j fun e => { e with key := k, val := v }))
  | [], es', [], i, _, _, h => by cases h; exact .inl ⟨rfl, fun c => ⟨⟨rfl, hd⟩, trivial⟩⟩
  | p :: es, es', m :: ms, i, ha, hks, h => by
    simp only [List.all_cons, Bool.and_eq_true] at hks
    cases h with
    | hit e =>
      have : Instr.sameNow d k m.key = some true := sameNow_beq hk (by rw [ha.1.1]; exact hks.1) (by rw [ha.1.1]; simp [e])
      refine .inr ⟨0, m.val, m, by simp [Instr.findNow, this], rfl, ha.1.1.trans e.symm, ?_⟩
      exact ⟨⟨rfl, hd⟩, ha.2⟩
    | miss e h =>
      have : Instr.sameNow d k m.key = some false := sameNow_beq hk (by rw [ha.1.1]; exact hks.1) (by rw [ha.1.1]; simp [e])
      rcases findNow_put hk hd (i + 1) ha.2 hks.2 h with ⟨h1, h2⟩ | ⟨j, v0, e0, h1, h2, h3, h4⟩
      · exact .inl ⟨by simp [Instr.findNow, this, h1], fun c => ⟨ha.1, h2 c⟩⟩
      · refine .inr ⟨j + 1, v0, e0, by simp [Instr.findNow, this, h1]; omega, by simpa using h2, h3, ?_⟩
        rw [List.modify_succ_cons]
        exact ⟨ha.1, h4⟩
  | [], _, _ :: _, _, h, _, _ => h.elim
  | _ :: _, _, [], _, h, _, _ => h.elim
section
variable {X : Ctx} {c : Cfg} {N : Cfg → Prop} {ty : TypeId} {pos : String} {af : Array Edge} {g : Option (Nat × Bool)}
theorem VO.mapSet {t kt et i : Nat} {m k x : Operand} {kv : Value} {s : S1} {es es' : List (Value × S1)} {kd : TypeDesc} (hm : c.ev m = .one (.c (.row i))) (hi : c.loc[i]? = some (.map es)) (hk : c.ev k = vv kv) (hx : c.ev x = .one s)
    (ht : X.P.underlying t = some (.map kt et)) (hkt : X.P.underlying kt = some kd) (hkv : KeyOf kd kv = true) (hks : (es.all fun p => KeyOf kd p.1) = true) (hp : Put kv s es es')
    (h : N { c with loc := c.loc.set i (.map es') }) : VO X ⟨none, .mapUpdate t m k x, ty, pos, af, g⟩ c N :=
  .of_skip rfl fun ρ σ a w hr => by
    have e1 := hr.ev m
    rw [hm] at e1
    have e1 : σ[i]? = some (a.eval m) := e1
    have e2 := hr.ev k
    rw [hk] at e2
    have e2 : a.eval k = kv := e2
    have e3 := hr.ev x
    rw [hx] at e3
    obtain ⟨b, ms, clock, fp, hb, hm0, e0, hw, ha⟩ := hr.getMap hi e1
    rcases findNow_put hkv e3 0 ha hks hp with ⟨hf, hA⟩ | ⟨j, v0, en, hf, h2, h3, hA⟩
    · refine ⟨{ w with heap := w.heap.setIfInBounds b (.map (ms.push ⟨kv, a.eval x, clock⟩) (clock + 1)) }, _, ρ, σ, ?_, hr.setObj _ (List.getElem?_eq_some_iff.1 hi).1 hb hm0 e1 (o := .map es') ?_, h⟩
      · simp [execOp, e0, e2, Instr.mapUpdate, run_underlying ht, MapKept.run_getObj_map hw, run_checkKey hkt (isKey_of hkv), run_findKey hkt hf, MapKept.run_setObj_map _ hw, Result.andThen]
      · refine ⟨b, _, _, e0, hm0, Array.getElem?_setIfInBounds_self_of_lt (Array.getElem?_eq_some_iff.1 hw).1, ?_⟩
        rw [Array.toList_push]
        exact hA clock
    · rw [Nat.zero_add] at hf
      have h2' : ms[j]? = some en := by rw [← Array.getElem?_toList]; exact h2
      refine ⟨{ w with heap := w.heap.setIfInBounds b (.map (ms.modify j fun e => { e with key := kv, val := a.eval x }) clock) }, _, ρ, σ, ?_, hr.setObj _ (List.getElem?_eq_some_iff.1 hi).1 hb hm0 e1 (o := .map es') ?_, h⟩
      · simp [execOp, e0, e2, Instr.mapUpdate, run_underlying ht, MapKept.run_getObj_map hw, run_checkKey hkt (isKey_of hkv), run_findKey hkt hf, MapKept.run_setObj_map _ hw, Result.andThen, h2', h3, Instr.keyThatStays, sameBits_key hkv]
      · refine ⟨b, _, _, e0, hm0, Array.getElem?_setIfInBounds_self_of_lt (Array.getElem?_eq_some_iff.1 hw).1, ?_⟩
        rw [Array.toList_modify]
        exact hA
end
end Go.Sx
namespace Go.Proofs.YtbdacbcpniegiaaDoor
open Go Go.RowKit Go.Proofs Go.Sx
set_option maxHeartbeats 4000000
set_option maxRecDepth 100000
set_option linter.unusedSimpArgs false
set_option linter.unusedVariables false
structure Rs where
  t : Int
  s : List UInt8
  q : Nat
  g : Bool
  b : List UInt8
deriving Inhabited, DecidableEq
def rightB (r : Rs) : Bool := keyB r.t r.s && !(r.s == [42]) && decide ((r.b.length : Int) ≤ 1024) && !(r.g && !(r.b == [])) && decide (0 < (r.q : Int)) && decide ((r.q : Int) ≤ 4611686018427387904)
def Rs.cells (r : Rs) : List Value := [.int .i64 r.t, .string (B r.s), .int .u64 r.q, .bool r.g, .string (B r.b)]
theorem right_any (r : Rs) (hs : r.s.length ≤ 9223372036854775807) (w : World) :
    Calls Tryd.prog 51 #[.agg #[.int .i64 r.t, .string (B r.s), .int .u64 r.q, .bool r.g, .string (B r.b)]] w fun e w' => e = .returned (.bool (rightB r)) ∧ Below w.heap.size w w' := by
  refine calls_pureK (args := [.agg #[.int .i64 r.t, .string (B r.s), .int .u64 r.q, .bool r.g, .string (B r.b)]]) w Tryd.func51 rfl Tryd.ntmps51 (by simp) ?_
  intro X K hX hK
  have hnt : X.nt = 38 := by rw [hX]
  have hwi : X.wi = w := by rw [hX]
  have hP : X.P = Tryd.prog := by rw [hX]
  have hown : X.own = [] := by rw [hX]
  have hbl : X.base.length = 0 := by rw [hX]; rfl
  clear hX
  have hT : fieldOff X.P 89 0 = some 0 ∧ aggOf X.P 26 = some true ∧ szOf X.P 26 = some 2 ∧ calleeOk X.P 78 = true ∧ fieldOff X.P 26 1 = some 1 ∧ aggOf X.P 9 = some false ∧ szOf X.P 9 = some 1 ∧ fieldOff X.P 89 3 = some 4 ∧ X.P.underlying 9 = some TypeDesc.string ∧ fieldOff X.P 89 2 = some 3 ∧ aggOf X.P 4 = some false ∧ szOf X.P 4 = some 1 ∧ fieldOff X.P 89 1 = some 2 ∧ aggOf X.P 22 = some false ∧ szOf X.P 22 = some 1 := by rw [hP]; exact ⟨Ty.fo89_0, Ty.ag26, Ty.sz26, Ty.co78, Ty.fo26_1, Ty.ag9, Ty.sz9, Ty.fo89_3, Tryd.underlying9, Ty.fo89_2, Ty.ag4, Ty.sz4, Ty.fo89_1, Ty.ag22, Ty.sz22⟩
  repeat' (first
    | (refine SX.seqK ?_; intro N hN)
    | ((first | (refine SX.ops ?_)); simp only [GA, ↓GB, List.filterMap_cons, eq_self, BEq.rfl, simprocAttr, hnt, hT])
    | ((first | refine SX.skip ?_ | refine SX.exit ?_ | refine SX.label ?_); try simp only [GA, ↓GB, List.filterMap_cons, eq_self, BEq.rfl, simprocAttr])
    | (refine SX.cond rfl (fun hb => ?_) (fun hb => ?_) <;> ((first | cases hb | (simp only [decide_eq_true_eq, decide_eq_false_iff_not, beq_iff_eq, beq_eq_false_iff_ne, bne_iff_ne, Bool.and_eq_true, Bool.or_eq_true, Bool.not_eq_true', Bool.not_eq_false', Bool.and_eq_false_iff, Bool.or_eq_false_iff, Int.not_lt, Int.not_le] at hb) | skip) <;> (first | (exfalso; omega) | skip)))
    | (refine SX.ret ?_; try simp only [GA, ↓GB, List.filterMap_cons, eq_self, BEq.rfl, simprocAttr])
    | (refine hN _ ?_; clear hN N)
    | (refine hK _ _ (Fin.res rfl hown ?_); simp only [GA, ↓GB, List.filterMap_cons, eq_self, BEq.rfl, simprocAttr, f_a, f_b, f_n, f_c, f_B, f_v, f_g, f_0, f_1, f_2, hT, hwi]; intro w' hbel; refine Done.out ?_)
    | (clear hN N; first | (refine hN _ ?_; clear hN N) | (clear hN N; first | (refine hN _ ?_; clear hN N) | (clear hN N; first | (refine hN _ ?_; clear hN N) | (clear hN N; first | (refine hN _ ?_; clear hN N) | (clear hN N; first | (refine hN _ ?_; clear hN N) | (refine hN _ ?_; clear hN N))))))
    | (refine bif2.mk (fun hb => ?_) (fun hb => ?_) <;> (try simp only [hb, GA, ↓GB, List.filterMap_cons, eq_self, BEq.rfl, simprocAttr, hnt, hT]) <;> ((first | cases hb | (simp only [decide_eq_true_eq, decide_eq_false_iff_not, beq_iff_eq, beq_eq_false_iff_ne, bne_iff_ne, Bool.and_eq_true, Bool.or_eq_true, Bool.not_eq_true', Bool.not_eq_false', Bool.and_eq_false_iff, Bool.or_eq_false_iff, Int.not_lt, Int.not_le] at hb) | skip) <;> (first | (exfalso; omega) | skip)))
    | ((first | (refine CallVC.pv hP (key_any _ _ hs) rfl ?_) | (refine CallQ.pv hP (key_any _ _ hs) rfl ?_)); simp only [GA, ↓GB, List.filterMap_cons, eq_self, BEq.rfl, simprocAttr, hnt, hT])
    | (refine SX.block ?_)
    | (refine and_mk ?_ ?_; (focus first | decide | omega | rfl | assumption | (simp only [List.length_append, List.length_cons, List.length_nil, B_size]; omega) | (simp; done)))
    | (refine And.intro ?_ ?_))
  all_goals (try refine Done.mk ?_)
  all_goals (refine ⟨?_, hbel⟩; clear hK hT hP hnt hwi hown hbl; simp_all [rightB] <;> (intros; omega))
def resB (r : Rs) (t : Nat) : List UInt8 := numB 1 t ++ textB 2 r.s ++ numB 3 r.q ++ (if r.g then numB 4 1 else []) ++ (if r.b = [] then [] else textB 5 r.b)
theorem right_type {r : Rs} (h : rightB r = true) : 1 ≤ r.t ∧ r.t ≤ 5 ∧ r.s.length ≤ 64 ∧ r.b.length ≤ 1024 ∧ 0 < r.q ∧ r.q ≤ 4611686018427387904 := by
  simp only [rightB, keyB, nameB, Bool.and_eq_true, Bool.or_eq_true, decide_eq_true_eq, beq_iff_eq] at h
  obtain ⟨⟨⟨⟨⟨⟨⟨h1, h2⟩, h3⟩, _⟩, h4⟩, _⟩, h5⟩, h6⟩ := h
  refine ⟨h1, h2, ?_, by omega, by omega, by omega⟩
  rcases h3 with h3 | h3
  · rw [h3]; decide
  · omega
theorem put_yes (r : Rs) (h : rightB r = true) (w : World) :
    Calls Tryd.prog 45 #[.agg #[.int .i64 r.t, .string (B r.s), .int .u64 r.q, .bool r.g, .string (B r.b)]] w fun e w' => e = .returned (.tuple #[.string (B (resB r r.t.toNat)), .bool true]) ∧ Below w.heap.size w w' := by
  obtain ⟨h1, h2, h3, h4, h5, h6⟩ := right_type h
  have hr := right_any r (by omega)
  obtain ⟨t, s, q, g, b⟩ := r
  simp only [] at h1 h2 h3 h4 h5 h6 hr
  obtain ⟨t, rfl⟩ : ∃ n : Nat, t = n := ⟨t.toNat, by omega⟩
  have e1 : IntKind.u64.wrap (t : Int) = (t : Int) := wU64 (by omega) (by omega)
  rw [Int.toNat_natCast]
  have n1 := numB_len 1 t (by decide) (by omega)
  have n2 := textB_len 2 s (by decide) (by omega)
  have n3 := numB_len 3 q (by decide) (by omega)
  have n4 := numB_len 4 1 (by decide) (by decide)
  have n5 := textB_len 5 b (by decide) (by omega)
  cases g with
  | true =>
    by_cases hb : b = []
    · subst hb
      refine calls_pureK (args := [.agg #[.int .i64 t, .string (B s), .int .u64 q, .bool true, .string (B [])]]) w Tryd.func45 rfl Tryd.ntmps45 (by simp) ?_
      intro X K hX hK
      have hnt : X.nt = 36 := by rw [hX]
      have hwi : X.wi = w := by rw [hX]
      have hP : X.P = Tryd.prog := by rw [hX]
      have hown : X.own = [] := by rw [hX]
      have hbl : X.base.length = 0 := by rw [hX]; rfl
      clear hX
      have hT : aggOf X.P 89 = some true ∧ szOf X.P 89 = some 5 ∧ calleeOk X.P 51 = true ∧ fieldOff X.P 89 0 = some 0 ∧ fieldOff X.P 26 0 = some 0 ∧ aggOf X.P 3 = some false ∧ szOf X.P 3 = some 1 ∧ X.P.underlying 3 = some (TypeDesc.int IntKind.i64) ∧ X.P.underlying 22 = some (TypeDesc.int IntKind.u64) ∧ isBytesT X.P 3 = false ∧ isStrT X.P 22 = false ∧ calleeOk X.P 23 = true ∧ fieldOff X.P 26 1 = some 1 ∧ aggOf X.P 9 = some false ∧ szOf X.P 9 = some 1 ∧ calleeOk X.P 104 = true ∧ fieldOff X.P 89 1 = some 2 ∧ aggOf X.P 22 = some false ∧ szOf X.P 22 = some 1 ∧ fieldOff X.P 89 2 = some 3 ∧ aggOf X.P 4 = some false ∧ szOf X.P 4 = some 1 ∧ fieldOff X.P 89 3 = some 4 := by rw [hP]; exact ⟨Ty.ag89, Ty.sz89, Ty.co51, Ty.fo89_0, Ty.fo26_0, Ty.ag3, Ty.sz3, Tryd.underlying3, Tryd.underlying22, Ty.ib3, Ty.is22, Ty.co23, Ty.fo26_1, Ty.ag9, Ty.sz9, Ty.co104, Ty.fo89_1, Ty.ag22, Ty.sz22, Ty.fo89_2, Ty.ag4, Ty.sz4, Ty.fo89_3⟩
      repeat' (first
        | (refine SX.seqK ?_; intro N hN)
        | ((first | (refine SX.ops ?_) | (refine SX.planT (id := 3) [.q [(0, [1]), (1, [8]), (2, [9]), (3, [10]), (4, [11]), (5, [1]), (6, [13]), (7, [14]), (8, [15]), (9, [12, 16]), (10, [1]), (11, [18]), (12, [19]), (13, [17, 20]), (14, [21])] none] ?_ ?_ ?_; (focus first | (rw [hP]; kernel_rfl) | (rw [hU1P, hP]; kernel_rfl)); (focus kernel_rfl))); simp only [GA, ↓GB, List.filterMap_cons, eq_self, BEq.rfl, simprocAttr, hnt, hT, h, e1])
        | ((first | refine SX.skip ?_ | refine SX.exit ?_ | refine SX.label ?_); try simp only [GA, ↓GB, List.filterMap_cons, eq_self, BEq.rfl, simprocAttr])
        | (refine SX.cond rfl (fun hb => ?_) (fun hb => ?_) <;> ((first | cases hb | (simp only [decide_eq_true_eq, decide_eq_false_iff_not, beq_iff_eq, beq_eq_false_iff_ne, bne_iff_ne, Bool.and_eq_true, Bool.or_eq_true, Bool.not_eq_true', Bool.not_eq_false', Bool.and_eq_false_iff, Bool.or_eq_false_iff, Int.not_lt, Int.not_le] at hb) | skip) <;> (first | (exfalso; omega) | skip)))
        | (refine SX.ret ?_; try simp only [GA, ↓GB, List.filterMap_cons, eq_self, BEq.rfl, simprocAttr])
        | (refine hN _ ?_; clear hN N)
        | (refine hK _ _ (Fin.res rfl hown ?_); simp only [GA, ↓GB, List.filterMap_cons, eq_self, BEq.rfl, simprocAttr, f_a, f_b, f_n, f_c, f_B, f_v, f_g, f_0, f_1, f_2, hT, hwi, h, e1]; intro w' hbel; refine Done.out ?_)
        | (clear hN N; first | (refine hN _ ?_; clear hN N) | (clear hN N; first | (refine hN _ ?_; clear hN N) | (clear hN N; first | (refine hN _ ?_; clear hN N) | (clear hN N; first | (refine hN _ ?_; clear hN N) | (clear hN N; first | (refine hN _ ?_; clear hN N) | (refine hN _ ?_; clear hN N))))))
        | (refine bif2.mk (fun hb => ?_) (fun hb => ?_) <;> (try simp only [hb, GA, ↓GB, List.filterMap_cons, eq_self, BEq.rfl, simprocAttr, hnt, hT, h, e1]) <;> ((first | cases hb | (simp only [decide_eq_true_eq, decide_eq_false_iff_not, beq_iff_eq, beq_eq_false_iff_ne, bne_iff_ne, Bool.and_eq_true, Bool.or_eq_true, Bool.not_eq_true', Bool.not_eq_false', Bool.and_eq_false_iff, Bool.or_eq_false_iff, Int.not_lt, Int.not_le] at hb) | skip) <;> (first | (exfalso; omega) | skip)))
        | ((first | (refine CallVC.pv hP (hr) rfl ?_) | (refine CallQ.pv hP (hr) rfl ?_) | (refine CallVC.pv hP (number_any 1 t (by decide) (by decide) (by omega)) rfl ?_) | (refine CallQ.pv hP (number_any 1 t (by decide) (by decide) (by omega)) rfl ?_) | (refine CallVC.pv hP (number_any 3 q (by decide) (by decide) (by omega)) rfl ?_) | (refine CallQ.pv hP (number_any 3 q (by decide) (by decide) (by omega)) rfl ?_) | (refine CallVC.pv hP (number_any 4 1 (by decide) (by decide) (by decide)) rfl ?_) | (refine CallQ.pv hP (number_any 4 1 (by decide) (by decide) (by decide)) rfl ?_) | (refine CallVC.pv hP (text_any 2 s (by decide) (by decide) (by omega)) rfl ?_) | (refine CallQ.pv hP (text_any 2 s (by decide) (by decide) (by omega)) rfl ?_)); simp only [GA, ↓GB, List.filterMap_cons, eq_self, BEq.rfl, simprocAttr, hnt, hT, h, e1])
        | (refine SX.block ?_)
        | (refine and_mk ?_ ?_; (focus first | decide | omega | rfl | assumption | (simp only [List.length_append, List.length_cons, List.length_nil, B_size]; omega) | (simp; done)))
        | (refine And.intro ?_ ?_))
      all_goals (try refine Done.mk ?_)
      all_goals first
        | ((try simp only [List.length_append]); omega)
        | (refine ⟨?_, hbel⟩; simp_all [resB])
    · exfalso
      simp [rightB, hb] at h
  | false =>
    by_cases hb : b = []
    · subst hb
      refine calls_pureK (args := [.agg #[.int .i64 t, .string (B s), .int .u64 q, .bool false, .string (B [])]]) w Tryd.func45 rfl Tryd.ntmps45 (by simp) ?_
      intro X K hX hK
      have hnt : X.nt = 36 := by rw [hX]
      have hwi : X.wi = w := by rw [hX]
      have hP : X.P = Tryd.prog := by rw [hX]
      have hown : X.own = [] := by rw [hX]
      have hbl : X.base.length = 0 := by rw [hX]; rfl
      clear hX
      have hT : aggOf X.P 89 = some true ∧ szOf X.P 89 = some 5 ∧ calleeOk X.P 51 = true ∧ fieldOff X.P 89 0 = some 0 ∧ fieldOff X.P 26 0 = some 0 ∧ aggOf X.P 3 = some false ∧ szOf X.P 3 = some 1 ∧ X.P.underlying 3 = some (TypeDesc.int IntKind.i64) ∧ X.P.underlying 22 = some (TypeDesc.int IntKind.u64) ∧ isBytesT X.P 3 = false ∧ isStrT X.P 22 = false ∧ calleeOk X.P 23 = true ∧ fieldOff X.P 26 1 = some 1 ∧ aggOf X.P 9 = some false ∧ szOf X.P 9 = some 1 ∧ calleeOk X.P 104 = true ∧ fieldOff X.P 89 1 = some 2 ∧ aggOf X.P 22 = some false ∧ szOf X.P 22 = some 1 ∧ fieldOff X.P 89 2 = some 3 ∧ aggOf X.P 4 = some false ∧ szOf X.P 4 = some 1 ∧ fieldOff X.P 89 3 = some 4 := by rw [hP]; exact ⟨Ty.ag89, Ty.sz89, Ty.co51, Ty.fo89_0, Ty.fo26_0, Ty.ag3, Ty.sz3, Tryd.underlying3, Tryd.underlying22, Ty.ib3, Ty.is22, Ty.co23, Ty.fo26_1, Ty.ag9, Ty.sz9, Ty.co104, Ty.fo89_1, Ty.ag22, Ty.sz22, Ty.fo89_2, Ty.ag4, Ty.sz4, Ty.fo89_3⟩
      repeat' (first
        | (refine SX.seqK ?_; intro N hN)
        | ((first | (refine SX.ops ?_) | (refine SX.planT (id := 3) [.q [(0, [1]), (1, [8]), (2, [9]), (3, [10]), (4, [11]), (5, [1]), (6, [13]), (7, [14]), (8, [15]), (9, [12, 16]), (10, [1]), (11, [18]), (12, [19]), (13, [17, 20]), (14, [21])] none] ?_ ?_ ?_; (focus first | (rw [hP]; kernel_rfl) | (rw [hU1P, hP]; kernel_rfl)); (focus kernel_rfl))); simp only [GA, ↓GB, List.filterMap_cons, eq_self, BEq.rfl, simprocAttr, hnt, hT, h, e1])
        | ((first | refine SX.skip ?_ | refine SX.exit ?_ | refine SX.label ?_); try simp only [GA, ↓GB, List.filterMap_cons, eq_self, BEq.rfl, simprocAttr])
        | (refine SX.cond rfl (fun hb => ?_) (fun hb => ?_) <;> ((first | cases hb | (simp only [decide_eq_true_eq, decide_eq_false_iff_not, beq_iff_eq, beq_eq_false_iff_ne, bne_iff_ne, Bool.and_eq_true, Bool.or_eq_true, Bool.not_eq_true', Bool.not_eq_false', Bool.and_eq_false_iff, Bool.or_eq_false_iff, Int.not_lt, Int.not_le] at hb) | skip) <;> (first | (exfalso; omega) | skip)))
        | (refine SX.ret ?_; try simp only [GA, ↓GB, List.filterMap_cons, eq_self, BEq.rfl, simprocAttr])
        | (refine hN _ ?_; clear hN N)
        | (refine hK _ _ (Fin.res rfl hown ?_); simp only [GA, ↓GB, List.filterMap_cons, eq_self, BEq.rfl, simprocAttr, f_a, f_b, f_n, f_c, f_B, f_v, f_g, f_0, f_1, f_2, hT, hwi, h, e1]; intro w' hbel; refine Done.out ?_)
        | (clear hN N; first | (refine hN _ ?_; clear hN N) | (clear hN N; first | (refine hN _ ?_; clear hN N) | (clear hN N; first | (refine hN _ ?_; clear hN N) | (clear hN N; first | (refine hN _ ?_; clear hN N) | (clear hN N; first | (refine hN _ ?_; clear hN N) | (refine hN _ ?_; clear hN N))))))
        | (refine bif2.mk (fun hb => ?_) (fun hb => ?_) <;> (try simp only [hb, GA, ↓GB, List.filterMap_cons, eq_self, BEq.rfl, simprocAttr, hnt, hT, h, e1]) <;> ((first | cases hb | (simp only [decide_eq_true_eq, decide_eq_false_iff_not, beq_iff_eq, beq_eq_false_iff_ne, bne_iff_ne, Bool.and_eq_true, Bool.or_eq_true, Bool.not_eq_true', Bool.not_eq_false', Bool.and_eq_false_iff, Bool.or_eq_false_iff, Int.not_lt, Int.not_le] at hb) | skip) <;> (first | (exfalso; omega) | skip)))
        | ((first | (refine CallVC.pv hP (hr) rfl ?_) | (refine CallQ.pv hP (hr) rfl ?_) | (refine CallVC.pv hP (number_any 1 t (by decide) (by decide) (by omega)) rfl ?_) | (refine CallQ.pv hP (number_any 1 t (by decide) (by decide) (by omega)) rfl ?_) | (refine CallVC.pv hP (number_any 3 q (by decide) (by decide) (by omega)) rfl ?_) | (refine CallQ.pv hP (number_any 3 q (by decide) (by decide) (by omega)) rfl ?_) | (refine CallVC.pv hP (text_any 2 s (by decide) (by decide) (by omega)) rfl ?_) | (refine CallQ.pv hP (text_any 2 s (by decide) (by decide) (by omega)) rfl ?_)); simp only [GA, ↓GB, List.filterMap_cons, eq_self, BEq.rfl, simprocAttr, hnt, hT, h, e1])
        | (refine SX.block ?_)
        | (refine and_mk ?_ ?_; (focus first | decide | omega | rfl | assumption | (simp only [List.length_append, List.length_cons, List.length_nil, B_size]; omega) | (simp; done)))
        | (refine And.intro ?_ ?_))
      all_goals (try refine Done.mk ?_)
      all_goals first
        | ((try simp only [List.length_append]); omega)
        | (refine ⟨?_, hbel⟩; simp_all [resB])
    · have gb : (b == []) = false := by cases b <;> simp_all
      refine calls_pureK (args := [.agg #[.int .i64 t, .string (B s), .int .u64 q, .bool false, .string (B b)]]) w Tryd.func45 rfl Tryd.ntmps45 (by simp) ?_
      intro X K hX hK
      have hnt : X.nt = 36 := by rw [hX]
      have hwi : X.wi = w := by rw [hX]
      have hP : X.P = Tryd.prog := by rw [hX]
      have hown : X.own = [] := by rw [hX]
      have hbl : X.base.length = 0 := by rw [hX]; rfl
      clear hX
      have hT : aggOf X.P 89 = some true ∧ szOf X.P 89 = some 5 ∧ calleeOk X.P 51 = true ∧ fieldOff X.P 89 0 = some 0 ∧ fieldOff X.P 26 0 = some 0 ∧ aggOf X.P 3 = some false ∧ szOf X.P 3 = some 1 ∧ X.P.underlying 3 = some (TypeDesc.int IntKind.i64) ∧ X.P.underlying 22 = some (TypeDesc.int IntKind.u64) ∧ isBytesT X.P 3 = false ∧ isStrT X.P 22 = false ∧ calleeOk X.P 23 = true ∧ fieldOff X.P 26 1 = some 1 ∧ aggOf X.P 9 = some false ∧ szOf X.P 9 = some 1 ∧ calleeOk X.P 104 = true ∧ fieldOff X.P 89 1 = some 2 ∧ aggOf X.P 22 = some false ∧ szOf X.P 22 = some 1 ∧ fieldOff X.P 89 2 = some 3 ∧ aggOf X.P 4 = some false ∧ szOf X.P 4 = some 1 ∧ fieldOff X.P 89 3 = some 4 := by rw [hP]; exact ⟨Ty.ag89, Ty.sz89, Ty.co51, Ty.fo89_0, Ty.fo26_0, Ty.ag3, Ty.sz3, Tryd.underlying3, Tryd.underlying22, Ty.ib3, Ty.is22, Ty.co23, Ty.fo26_1, Ty.ag9, Ty.sz9, Ty.co104, Ty.fo89_1, Ty.ag22, Ty.sz22, Ty.fo89_2, Ty.ag4, Ty.sz4, Ty.fo89_3⟩
      repeat' (first
        | (refine SX.seqK ?_; intro N hN)
        | ((first | (refine SX.ops ?_) | (refine SX.planT (id := 3) [.q [(0, [1]), (1, [8]), (2, [9]), (3, [10]), (4, [11]), (5, [1]), (6, [13]), (7, [14]), (8, [15]), (9, [12, 16]), (10, [1]), (11, [18]), (12, [19]), (13, [17, 20]), (14, [21])] none] ?_ ?_ ?_; (focus first | (rw [hP]; kernel_rfl) | (rw [hU1P, hP]; kernel_rfl)); (focus kernel_rfl))); simp only [GA, ↓GB, List.filterMap_cons, eq_self, BEq.rfl, simprocAttr, hnt, hT, h, e1, gb])
        | ((first | refine SX.skip ?_ | refine SX.exit ?_ | refine SX.label ?_); try simp only [GA, ↓GB, List.filterMap_cons, eq_self, BEq.rfl, simprocAttr])
        | (refine SX.cond rfl (fun hb => ?_) (fun hb => ?_) <;> ((first | cases hb | (simp only [decide_eq_true_eq, decide_eq_false_iff_not, beq_iff_eq, beq_eq_false_iff_ne, bne_iff_ne, Bool.and_eq_true, Bool.or_eq_true, Bool.not_eq_true', Bool.not_eq_false', Bool.and_eq_false_iff, Bool.or_eq_false_iff, Int.not_lt, Int.not_le] at hb) | skip) <;> (first | (exfalso; omega) | skip)))
        | (refine SX.ret ?_; try simp only [GA, ↓GB, List.filterMap_cons, eq_self, BEq.rfl, simprocAttr])
        | (refine hN _ ?_; clear hN N)
        | (refine hK _ _ (Fin.res rfl hown ?_); simp only [GA, ↓GB, List.filterMap_cons, eq_self, BEq.rfl, simprocAttr, f_a, f_b, f_n, f_c, f_B, f_v, f_g, f_0, f_1, f_2, hT, hwi, h, e1, gb]; intro w' hbel; refine Done.out ?_)
        | (clear hN N; first | (refine hN _ ?_; clear hN N) | (clear hN N; first | (refine hN _ ?_; clear hN N) | (clear hN N; first | (refine hN _ ?_; clear hN N) | (clear hN N; first | (refine hN _ ?_; clear hN N) | (clear hN N; first | (refine hN _ ?_; clear hN N) | (refine hN _ ?_; clear hN N))))))
        | (refine bif2.mk (fun hb => ?_) (fun hb => ?_) <;> (try simp only [hb, GA, ↓GB, List.filterMap_cons, eq_self, BEq.rfl, simprocAttr, hnt, hT, h, e1, gb]) <;> ((first | cases hb | (simp only [decide_eq_true_eq, decide_eq_false_iff_not, beq_iff_eq, beq_eq_false_iff_ne, bne_iff_ne, Bool.and_eq_true, Bool.or_eq_true, Bool.not_eq_true', Bool.not_eq_false', Bool.and_eq_false_iff, Bool.or_eq_false_iff, Int.not_lt, Int.not_le] at hb) | skip) <;> (first | (exfalso; omega) | skip)))
        | ((first | (refine CallVC.pv hP (hr) rfl ?_) | (refine CallQ.pv hP (hr) rfl ?_) | (refine CallVC.pv hP (number_any 1 t (by decide) (by decide) (by omega)) rfl ?_) | (refine CallQ.pv hP (number_any 1 t (by decide) (by decide) (by omega)) rfl ?_) | (refine CallVC.pv hP (number_any 3 q (by decide) (by decide) (by omega)) rfl ?_) | (refine CallQ.pv hP (number_any 3 q (by decide) (by decide) (by omega)) rfl ?_) | (refine CallVC.pv hP (text_any 2 s (by decide) (by decide) (by omega)) rfl ?_) | (refine CallQ.pv hP (text_any 2 s (by decide) (by decide) (by omega)) rfl ?_) | (refine CallVC.pv hP (text_any 5 b (by decide) (by decide) (by omega)) rfl ?_) | (refine CallQ.pv hP (text_any 5 b (by decide) (by decide) (by omega)) rfl ?_)); simp only [GA, ↓GB, List.filterMap_cons, eq_self, BEq.rfl, simprocAttr, hnt, hT, h, e1, gb])
        | (refine SX.block ?_)
        | (refine and_mk ?_ ?_; (focus first | decide | omega | rfl | assumption | (simp only [List.length_append, List.length_cons, List.length_nil, B_size]; omega) | (simp; done)))
        | (refine And.intro ?_ ?_))
      all_goals (try refine Done.mk ?_)
      all_goals first
        | ((try simp only [List.length_append]); omega)
        | (refine ⟨?_, hbel⟩; simp_all [resB])
end Go.Proofs.YtbdacbcpniegiaaDoor
namespace Go.Proofs.YtbdacbcpniegiaaDoor
open Go Go.RowKit Go.Proofs Go.Sx
set_option maxHeartbeats 4000000
set_option maxRecDepth 100000
set_option linter.unusedSimpArgs false
set_option linter.unusedVariables false
theorem strEq_to {P P' : Program} {t : TypeId} {x y : Array Value} {r : Bool} (h : P' = P) (k : StrEq P t x y r) : StrEq P' t x y r := h ▸ k
def cmpMark (a : Int) (s : List UInt8) (q : Int) (b : Int) (t : List UInt8) (r : Int) : Int := if cmpKey a s b t ≠ 0 then cmpKey a s b t else cmpI q r
end Go.Proofs.YtbdacbcpniegiaaDoor
namespace Go.Proofs.YtbdacbcpniegiaaDoor
open Go Go.RowKit Go.Proofs Go.Sx
set_option maxHeartbeats 4000000
set_option maxRecDepth 100000
set_option linter.unusedSimpArgs false
set_option linter.unusedVariables false
structure Mk where
  t : Int
  s : List UInt8
  q : Int
  st : Int
  d : List UInt8
deriving DecidableEq, Inhabited
def Mk.cells (m : Mk) : List Value := [.int .i64 m.t, .string (B m.s), .int .u64 m.q, .int .i64 m.st, .string (B m.d)]
def mks (ms : List Mk) : List Value := ms.flatMap Mk.cells
theorem mks_cons (m : Mk) (ms : List Mk) : mks (m :: ms) = m.cells ++ mks ms := rfl
theorem mks_append (a b : List Mk) : mks (a ++ b) = mks a ++ mks b := by simp [mks]
theorem mks_length : ∀ ms : List Mk, (mks ms).length = ms.length * 5
  | [] => rfl
  | m :: ms => by rw [mks_cons, List.length_append, mks_length ms]; simp [Mk.cells]; omega
theorem mks_drop : ∀ (i : Nat) (ms : List Mk), (mks ms).drop (i * 5) = mks (ms.drop i)
  | 0, ms => by simp
  | i + 1, [] => by simp [mks]
  | i + 1, m :: ms => by
    rw [mks_cons, show (i + 1) * 5 = m.cells.length + i * 5 by simp [Mk.cells]; omega, List.drop_append, Nat.add_sub_cancel_left, mks_drop i ms, List.drop_of_length_le (by omega)]
    rfl
theorem mks_take : ∀ (i : Nat) (ms : List Mk), (mks ms).take (i * 5) = mks (ms.take i)
  | 0, ms => by simp [mks]
  | i + 1, [] => by simp [mks]
  | i + 1, m :: ms => by
    rw [mks_cons, show (i + 1) * 5 = m.cells.length + i * 5 by simp [Mk.cells]; omega, List.take_append, List.take_succ_cons, mks_cons, Nat.add_sub_cancel_left, mks_take i ms, List.take_of_length_le (by omega)]
theorem mks_at (ms : List Mk) (i : Nat) (h : i < ms.length) : ((mks ms).drop (i * 5)).take 5 = (ms.getD i default).cells := by
  rw [mks_drop, List.drop_eq_getElem_cons h, mks_cons, List.getD_eq_getElem?_getD, List.getElem?_eq_getElem h]
  simp [Mk.cells]
@[reducible] def mrow (ms : List Mk) : LO := .row 62 5 ms.length (mks ms)
def idxI (p : Mk → Bool) (ms : List Mk) : Int := match ms.findIdx? p with | some i => i | none => -1
theorem idxN (p : Mk → Bool) (ms : List Mk) (i : Nat) (hi : i < ms.length) (hp : p (ms.getD i default) = true) (hn : ∀ j, j < i → p (ms.getD j default) = false) : idxI p ms = i := by
  have : ms.findIdx? p = some i := by
    rw [List.findIdx?_eq_some_iff_getElem]
    refine ⟨hi, by simpa [List.getD_eq_getElem?_getD, List.getElem?_eq_getElem hi] using hp, fun j hj => ?_⟩
    have := hn j hj
    rw [List.getD_eq_getElem?_getD, List.getElem?_eq_getElem (by omega)] at this
    simpa using this
  simp [idxI, this]
theorem idxNone (p : Mk → Bool) (ms : List Mk) (hn : ∀ j, j < ms.length → p (ms.getD j default) = false) : idxI p ms = -1 := by
  have : ms.findIdx? p = none := by
    rw [List.findIdx?_eq_none_iff]
    intro x hx
    obtain ⟨j, hj, rfl⟩ := List.mem_iff_getElem.1 hx
    have := hn j hj
    rw [List.getD_eq_getElem?_getD, List.getElem?_eq_getElem hj] at this
    simpa using this
  simp [idxI, this]
end Go.Proofs.YtbdacbcpniegiaaDoor
namespace Go.Proofs.YtbdacbcpniegiaaDoor
open Go Go.RowKit Go.Proofs Go.Sx
set_option maxHeartbeats 4000000
set_option maxRecDepth 100000
set_option linter.unusedSimpArgs false
set_option linter.unusedVariables false
def cmpM (a b : Mk) : Int := cmpMark a.t a.s a.q b.t b.s b.q
end Go.Proofs.YtbdacbcpniegiaaDoor
namespace Go.Proofs.YtbdacbcpniegiaaDoor
open Go Go.RowKit Go.Proofs Go.Sx
set_option maxHeartbeats 4000000
set_option maxRecDepth 100000
set_option linter.unusedSimpArgs false
set_option linter.unusedVariables false
theorem mks_one (ms : List Mk) : ∀ u ∈ mks ms, u.oneCell' = true := by
  intro u hu
  simp only [mks, List.mem_flatMap] at hu
  obtain ⟨m, _, hu⟩ := hu
  simp only [Mk.cells, List.mem_cons, List.not_mem_nil, or_false] at hu
  rcases hu with rfl | rfl | rfl | rfl | rfl <;> rfl
theorem clone_ctr (ms : List Mk) (hms : ms.length ≤ 1000000) : Ctr Tryd.prog [] 90 [mrow ms] [.one (.c (.row 0))]
    (fun os v => os = [mrow ms, mrow ms] ∧ v = .one (.c (.row 1))) := by
  refine Ctr.nilRow 62 5 (Ctr.less ?_)
  intro X0 hP0 hG0 N0 hN0
  refine CallVC.inline (f := 90) (by rw [hP0]; exact Tryd.func90) rfl Tryd.ntmps90 rfl (by simp) ?_
  intro X K hU hnt hbl hK
  have hP : X.P = Tryd.prog := by rw [hU.P, hP0]
  have hG := hG0.under hU
  have hT : X.P.underlying 59 = some (TypeDesc.slice 62) ∧ elemSz X.P 59 = some (62, 5) ∧ zeroCells X.P 62 = some [(Value.int IntKind.i64 0), (Value.string { data := #[] }), (Value.int IntKind.u64 0), (Value.int IntKind.i64 0), (Value.string { data := #[] })] ∧ elemInf X.P 59 = some (62, 5, 56, (Value.agg #[(Value.int IntKind.i64 0), (Value.string { data := #[] }), (Value.int IntKind.u64 0), (Value.int IntKind.i64 0), (Value.string { data := #[] })])) ∧ isStrT X.P 59 = false := by rw [hP]; exact ⟨Tryd.underlying59, Ty.el59, Ty.ze62, Ty.ei59, Ty.is59⟩
  simp only [GA, ↓GB, List.filterMap_cons, eq_self, BEq.rfl, simprocAttr] at hbl ⊢
  repeat' (first
    | (refine SX.seqK ?_; intro N hN)
    | ((first | (refine SX.ops ?_)); simp only [GA, ↓GB, List.filterMap_cons, eq_self, BEq.rfl, simprocAttr, hnt, hT])
    | ((first | refine SX.skip ?_ | refine SX.exit ?_ | refine SX.label ?_); try simp only [GA, ↓GB, List.filterMap_cons, eq_self, BEq.rfl, simprocAttr])
    | (refine SX.cond rfl (fun hb => ?_) (fun hb => ?_) <;> ((first | cases hb | (simp only [decide_eq_true_eq, decide_eq_false_iff_not, beq_iff_eq, beq_eq_false_iff_ne, bne_iff_ne, Bool.and_eq_true, Bool.or_eq_true, Bool.not_eq_true', Bool.not_eq_false', Bool.and_eq_false_iff, Bool.or_eq_false_iff, Int.not_lt, Int.not_le] at hb) | skip) <;> (first | (exfalso; omega) | skip)))
    | (refine SX.ret ?_; try simp only [GA, ↓GB, List.filterMap_cons, eq_self, BEq.rfl, simprocAttr])
    | (refine hN _ ?_; clear hN N)
    | ((first | refine hK _ _ (FinI.ret3 ?_) | refine hK _ _ (FinI.nrm3 ?_)); simp only [GA, ↓GB, List.filterMap_cons, eq_self, BEq.rfl, simprocAttr, finP_s, hnt, hT]; refine Done.out ?_)
    | (clear hN N; first | (refine hN _ ?_; clear hN N) | (clear hN N; first | (refine hN _ ?_; clear hN N) | (clear hN N; first | (refine hN _ ?_; clear hN N) | (clear hN N; first | (refine hN _ ?_; clear hN N) | (clear hN N; first | (refine hN _ ?_; clear hN N) | (refine hN _ ?_; clear hN N))))))
    | (refine bif2.mk (fun hb => ?_) (fun hb => ?_) <;> (try simp only [hb, GA, ↓GB, List.filterMap_cons, eq_self, BEq.rfl, simprocAttr, hnt, hT]) <;> ((first | cases hb | (simp only [decide_eq_true_eq, decide_eq_false_iff_not, beq_iff_eq, beq_eq_false_iff_ne, bne_iff_ne, Bool.and_eq_true, Bool.or_eq_true, Bool.not_eq_true', Bool.not_eq_false', Bool.and_eq_false_iff, Bool.or_eq_false_iff, Int.not_lt, Int.not_le] at hb) | skip) <;> (first | (exfalso; omega) | skip)))
    | (refine VO.rowNil (e' := 62) rfl rfl rfl (by rw [hP]; kernel_rfl) (fun b hb0 => ?_) <;> simp only [GA, ↓GB, List.filterMap_cons, eq_self, BEq.rfl, simprocAttr, hnt, hT])
    | (refine VO.closeRow (t := 5) (j := 1) (us := []) (sz := 5) (e := 62) (n := 0) (cap := 0) rfl rfl rfl (Nat.le_refl _) (Nat.zero_le _) ?_ <;> refine VO.appendRow (i := 2) (j := 0) (e := 62) (e' := 62) (sz := 5) rfl rfl (by rw [hP]; exact Ty.ei59) rfl rfl (mks_one ms) (by simp only [maxLen]; omega) (by omega) ?_ <;> simp only [GA, ↓GB, List.filterMap_cons, eq_self, BEq.rfl, simprocAttr, hnt, hT, Nat.zero_add])
    | (refine SX.block ?_)
    | (refine and_mk ?_ ?_; (focus first | decide | omega | rfl | assumption | (simp only [List.length_append, List.length_cons, List.length_nil, B_size]; omega) | (simp; done)))
    | (refine And.intro ?_ ?_))
  all_goals (try refine Done.mk ?_)
  · have h0 := hb0 rfl
    obtain rfl : ms = [] := List.length_eq_zero_iff.1 h0
    refine hN0 _ _ ⟨[0], [mrow []], vv (.slice none 0 0), ?_, rfl, rfl, .inr ⟨rfl, rfl, rfl⟩⟩
    exact LeR.of rfl trivial ⟨.inr rfl, trivial⟩ (by decide) rfl rfl rfl
  · refine hN0 _ _ ⟨[0, 3], [mrow ms, mrow ms], .one (.c (.row 1)), ?_, rfl, rfl, .inl ⟨rfl, rfl⟩⟩
    exact LeR.of rfl trivial ⟨.inr rfl, .inr rfl, trivial⟩ (by decide) rfl rfl rfl
end Go.Proofs.YtbdacbcpniegiaaDoor
namespace Go.Proofs.YtbdacbcpniegiaaDoor
open Go Go.RowKit Go.Proofs Go.Sx
set_option maxHeartbeats 4000000
set_option maxRecDepth 100000
set_option linter.unusedSimpArgs false
set_option linter.unusedVariables false
theorem idxI_spec (p : Mk → Bool) (ms : List Mk) : (idxI p ms = -1 ∧ ∀ j, j < ms.length → p (ms.getD j default) = false) ∨ ∃ k, k < ms.length ∧ idxI p ms = (k : Int) ∧ p (ms.getD k default) = true ∧ ∀ j, j < k → p (ms.getD j default) = false := by
  unfold idxI
  cases h : ms.findIdx? p with
  | none =>
    refine .inl ⟨rfl, fun j hj => ?_⟩
    rw [List.findIdx?_eq_none_iff] at h
    rw [List.getD_eq_getElem?_getD, List.getElem?_eq_getElem hj]
    exact h _ (List.getElem_mem hj)
  | some k =>
    rw [List.findIdx?_eq_some_iff_getElem] at h
    obtain ⟨hk, hp, hn⟩ := h
    refine .inr ⟨k, hk, rfl, by simpa [List.getD_eq_getElem?_getD, List.getElem?_eq_getElem hk] using hp, fun j hj => ?_⟩
    have := hn j hj
    simpa [List.getD_eq_getElem?_getD, List.getElem?_eq_getElem (show j < ms.length by omega)] using this
theorem filter_none (p : Mk → Bool) (ms : List Mk) (h : ∀ j, j < ms.length → p (ms.getD j default) = false) : (ms.filter fun m => !p m) = ms := by
  rw [List.filter_eq_self]
  intro x hx
  obtain ⟨j, hj, rfl⟩ := List.mem_iff_getElem.1 hx
  have := h j hj
  rw [List.getD_eq_getElem?_getD, List.getElem?_eq_getElem hj] at this
  simpa using this
theorem take_filter (p : Mk → Bool) (ms : List Mk) (k : Nat) (hk : k < ms.length) (hp : p (ms.getD k default) = true) (hn : ∀ j, j < k → p (ms.getD j default) = false) : ms.take k = ((ms.take (k + 1)).filter fun m => !p m) := by
  rw [List.take_succ_eq_append_getElem hk, List.filter_append]
  rw [List.getD_eq_getElem?_getD, List.getElem?_eq_getElem hk] at hp
  have h1 : ([ms[k]].filter fun m => !p m) = [] := by simp at hp; simp [hp]
  rw [h1, List.append_nil]
  refine (filter_none p _ fun j hj => ?_).symm
  have := hn j (by simp at hj; omega)
  simp only [List.getD_eq_getElem?_getD] at this ⊢
  rw [List.getElem?_take_of_lt (by simp at hj; omega)]
  exact this
theorem getD_drop (l ms : List Mk) (j : Nat) (h : l.drop j = ms.drop j) (hj : j < ms.length) : l.getD j default = ms.getD j default := by
  have := congrArg (fun x : List Mk => x[0]?) h
  simp only [List.getElem?_drop, Nat.add_zero] at this
  rw [List.getD_eq_getElem?_getD, List.getD_eq_getElem?_getD, this]
theorem mks_set : ∀ (l : List Mk) (i : Nat) (m : Mk), i < l.length → (mks l).take (i * 5) ++ m.cells ++ (mks l).drop (i * 5 + 5) = mks (l.set i m)
  | [], i, m, h => by simp at h
  | x :: l, 0, m, h => by
    simp only [Nat.zero_mul, List.take_zero, List.nil_append, List.set_cons_zero, mks_cons, Nat.zero_add]
    rw [List.drop_append, List.drop_of_length_le (by simp [Mk.cells])]
    simp [Mk.cells]
  | x :: l, i + 1, m, h => by
    have := mks_set l i m (by simpa using h)
    rw [List.set_cons_succ, mks_cons, mks_cons, ← this, show (i + 1) * 5 = x.cells.length + i * 5 by simp [Mk.cells]; omega, List.take_append, List.take_of_length_le (by omega), Nat.add_assoc, List.drop_append, List.drop_of_length_le (by omega)]
    simp
theorem lp_keep (p : Mk → Bool) (ms l : List Mk) (i j : Nat) (hl : l.length = ms.length) (hij : i < j) (hj : j < ms.length) (hft : l.take i = ((ms.take j).filter fun m => !p m)) (hp : p (ms.getD j default) = false) :
    (l.set i (ms.getD j default)).take (i + 1) = ((ms.take (j + 1)).filter fun m => !p m) := by
  have e : ms.getD j default = ms[j] := by rw [List.getD_eq_getElem?_getD, List.getElem?_eq_getElem hj]; rfl
  generalize ms.getD j default = v at *
  rw [List.take_succ_eq_append_getElem (by simp; omega), List.take_succ_eq_append_getElem hj, List.filter_append, ← hft, List.take_set_of_le (Nat.le_refl _), ← e]
  simp [hp]
theorem lp_skip (p : Mk → Bool) (ms l : List Mk) (i j : Nat) (hj : j < ms.length) (hft : l.take i = ((ms.take j).filter fun m => !p m)) (hp : p (ms.getD j default) = true) :
    l.take i = ((ms.take (j + 1)).filter fun m => !p m) := by
  have e : ms.getD j default = ms[j] := by rw [List.getD_eq_getElem?_getD, List.getElem?_eq_getElem hj]; rfl
  rw [List.take_succ_eq_append_getElem hj, List.filter_append, ← hft]
  rw [e] at hp
  simp [hp]
theorem lp_drop (ms l : List Mk) (i j : Nat) (v : Mk) (hij : i < j) (hdr : l.drop j = ms.drop j) : (l.set i v).drop (j + 1) = ms.drop (j + 1) := by
  rw [List.drop_set_of_lt (by omega), ← List.drop_drop (i := 1) (j := j), ← List.drop_drop (i := 1) (j := j), hdr]
theorem lp_drop' (ms l : List Mk) (j : Nat) (hdr : l.drop j = ms.drop j) : l.drop (j + 1) = ms.drop (j + 1) := by
  rw [← List.drop_drop (i := 1) (j := j), ← List.drop_drop (i := 1) (j := j), hdr]
theorem lp_end (p : Mk → Bool) (ms l : List Mk) (i j : Nat) (ys vs ds : List Value) (hl : l.length = ms.length) (hij : i < j) (hj : j = ms.length) (hft : l.take i = ((ms.take j).filter fun m => !p m)) :
    LO.row 62 5 i (List.take (i * 5) (List.take (0 + i * 5) (mks l ++ ys) ++ vs ++ ds)) = mrow (ms.filter fun m => !p m) := by
  subst hj
  rw [List.take_length] at hft
  have hi : (ms.filter fun m => !p m).length = i := by rw [← hft]; simp; omega
  have hle : i * 5 ≤ (mks l).length := by rw [mks_length]; omega
  simp only [Nat.zero_add, mrow, hi]
  congr 1
  rw [List.append_assoc, List.take_append_of_le_length (by simp; omega), List.take_take, Nat.min_self, List.take_append_of_le_length hle, mks_take, hft]
end Go.Proofs.YtbdacbcpniegiaaDoor
namespace Go.Proofs.YtbdacbcpniegiaaDoor
open Go Go.RowKit Go.Proofs Go.Sx
set_option maxHeartbeats 4000000
set_option maxRecDepth 100000
set_option linter.unusedSimpArgs false
set_option linter.unusedVariables false
theorem overlaps_run {P : Program} (hP : P = Tryd.prog) (w : World) (a b : Addr) (la ca lb cb : Nat) (cs cs2 : Array Value) (t t2 : TypeId) (h1 : w.heap[a.block]? = some (.cells cs t (0, 0))) (h2 : w.heap[b.block]? = some (.cells cs2 t2 (0, 0))) (hne : a.block ≠ b.block) (h0 : cs2.size ≠ 0) :
    (callFunc 131 #[.slice (some a) la ca, .slice (some b) lb cb]).run P w = .ok (.value (.bool false)) w := by
  subst hP
  rw [run_callFunc_extern Tryd.func131 (by kernel_rfl) (by kernel_rfl) (by kernel_rfl) (e := Extern.SlicesOverlaps.overlaps #[59, 59] #[4]) (by kernel_rfl),
    Lib.run_overlaps_apart w 59 4 62 (by kernel_rfl) 5 (sizeOf_run (by kernel_rfl)) a b la ca lb cb hne t t2 cs.size cs2.size (by simp [World.shape?, h1]) (by simp [World.shape?, h2]) h0 (by simp [World.frozen?, h1]) (by simp [World.frozen?, h1])]
  rfl
theorem insert_end (ms : List Mk) (hms : ms.length ≤ 1000000) (m : Mk) : Ctr Tryd.prog [] 83 [mrow ms, .cells [.v (.int .i64 m.t), .v (.string (B m.s)), .v (.int .u64 m.q), .v (.int .i64 m.st), .v (.string (B m.d))] 62] [.one (.c (.row 0)), vv (.int .i64 ms.length), .one (.c (.sl 1 0 1 1))]
    (fun os v => os = [.gone, .cells [.v (.int .i64 m.t), .v (.string (B m.s)), .v (.int .u64 m.q), .v (.int .i64 m.st), .v (.string (B m.d))] 62, mrow (ms ++ [m])] ∧ v = .one (.c (.row 2))) := by
  refine Ctr.less ?_
  intro X0 hP0 hG0 N0 hN0
  refine CallVC.inline (f := 83) (by rw [hP0]; exact Tryd.func83) rfl Tryd.ntmps83 rfl (by simp) ?_
  intro X K hU hnt hbl hK
  have hP : X.P = Tryd.prog := by rw [hU.P, hP0]
  have hG := hG0.under hU
  have hT : isStrT X.P 59 = false ∧ elemSz X.P 59 = some (62, 5) ∧ X.P.underlying 59 = some (TypeDesc.slice 62) ∧ elemInf X.P 59 = some (62, 5, 56, (Value.agg #[(Value.int IntKind.i64 0), (Value.string { data := #[] }), (Value.int IntKind.u64 0), (Value.int IntKind.i64 0), (Value.string { data := #[] })])) ∧ isStrT X.P 3 = false ∧ calleeOk X.P 131 = false ∧ calleeOk X.P 132 = true := by rw [hP]; exact ⟨Ty.is59, Ty.el59, Tryd.underlying59, Ty.ei59, Ty.is3, Ty.cx131, Ty.co132⟩
  simp only [GA, ↓GB, List.filterMap_cons, eq_self, BEq.rfl, simprocAttr] at hbl ⊢
  repeat' (first
    | (exact absurd hb (by simp))
    | (refine SX.seqK ?_; intro N hN)
    | ((first | (refine SX.ops ?_) | (refine SX.planT (id := 11) [.q [(0, [9]), (1, [1]), (2, [7]), (3, [47, 48]), (4, [46, 49]), (5, [0]), (6, [1]), (7, [51, 52])] none, .s 8] ?_ ?_ ?_; (focus first | (rw [hP]; kernel_rfl) | (rw [hU1P, hP]; kernel_rfl)); (focus kernel_rfl)) | (refine SX.planT (id := 15) [.q [(0, [0]), (1, [1]), (2, [7]), (3, [70, 71]), (4, [69, 72]), (5, [0]), (6, [1]), (7, [74, 75])] none, .s 8] ?_ ?_ ?_; (focus first | (rw [hP]; kernel_rfl) | (rw [hU1P, hP]; kernel_rfl)); (focus kernel_rfl))); simp only [GA, ↓GB, List.filterMap_cons, eq_self, BEq.rfl, simprocAttr, hnt, hT])
    | ((first | refine SX.skip ?_ | refine SX.exit ?_ | refine SX.label ?_); try simp only [GA, ↓GB, List.filterMap_cons, eq_self, BEq.rfl, simprocAttr])
    | (refine SX.cond rfl (fun hb => ?_) (fun hb => ?_) <;> ((first | cases hb | (simp only [decide_eq_true_eq, decide_eq_false_iff_not, beq_iff_eq, beq_eq_false_iff_ne, bne_iff_ne, Bool.and_eq_true, Bool.or_eq_true, Bool.not_eq_true', Bool.not_eq_false', Bool.and_eq_false_iff, Bool.or_eq_false_iff, Int.not_lt, Int.not_le] at hb) | skip) <;> (first | (exfalso; omega) | skip)))
    | (refine SX.ret ?_; try simp only [GA, ↓GB, List.filterMap_cons, eq_self, BEq.rfl, simprocAttr])
    | (refine hN _ ?_; clear hN N)
    | ((first | refine hK _ _ (FinI.ret3 ?_) | refine hK _ _ (FinI.nrm3 ?_)); simp only [GA, ↓GB, List.filterMap_cons, eq_self, BEq.rfl, simprocAttr, finP_s, hnt, hT]; refine Done.out ?_)
    | (clear hN N; first | (refine hN _ ?_; clear hN N) | (clear hN N; first | (refine hN _ ?_; clear hN N) | (clear hN N; first | (refine hN _ ?_; clear hN N) | (clear hN N; first | (refine hN _ ?_; clear hN N) | (clear hN N; first | (refine hN _ ?_; clear hN N) | (refine hN _ ?_; clear hN N))))))
    | (refine bif2.mk (fun hb => ?_) (fun hb => ?_) <;> (try simp only [hb, GA, ↓GB, List.filterMap_cons, eq_self, BEq.rfl, simprocAttr, hnt, hT]) <;> ((first | cases hb | (simp only [decide_eq_true_eq, decide_eq_false_iff_not, beq_iff_eq, beq_eq_false_iff_ne, bne_iff_ne, Bool.and_eq_true, Bool.or_eq_true, Bool.not_eq_true', Bool.not_eq_false', Bool.and_eq_false_iff, Bool.or_eq_false_iff, Int.not_lt, Int.not_le] at hb) | skip) <;> (first | (exfalso; omega) | skip)))
    | (refine SX.block ?_)
    | (refine and_mk ?_ ?_; (focus first | decide | omega | rfl | assumption | (simp only [List.length_append, List.length_cons, List.length_nil, B_size]; omega) | (simp; done)))
    | (refine And.intro ?_ ?_))
  all_goals (try refine Done.mk ?_)
  have e : LO.row 62 5 (ms.length + 1) (mks ms ++ [Value.int IntKind.i64 m.t, Value.string (B m.s), Value.int IntKind.u64 m.q, Value.int IntKind.i64 m.st, Value.string (B m.d)]) = mrow (ms ++ [m]) := by simp [mrow, mks_append, mks, Mk.cells]
  rw [e]
  (refine hN0 _ _ ⟨[0, 1, 2], _, _, ?_, ?_, ?_, ⟨rfl, rfl⟩⟩; (focus exact LeR.of rfl trivial (by simp only [GA, ↓GB, List.filterMap_cons, eq_self, BEq.rfl, simprocAttr, List.getD_cons_zero, List.getD_cons_succ, or_false, false_or, or_self, or_true, true_or, decide_true]) (by decide) rfl rfl rfl); rotate_left; (focus rfl))
  rfl
theorem cells_one (m : Mk) : ∀ u ∈ m.cells, u.oneCell' = true := by
  have := mks_one [m]
  simpa [mks] using this
theorem src_eq (ms : List Mk) (ys : List Value) (i : Nat) (hi : i < ms.length) : ((mks ms ++ ys).drop (0 + i * 5)).take ((ms.length - i) * 5) = mks (ms.drop i) := by
  rw [Nat.zero_add, List.drop_append_of_le_length (by rw [mks_length]; omega), mks_drop, List.take_append_of_le_length (by rw [mks_length]; simp), List.take_of_length_le (by rw [mks_length]; simp)]
theorem src_len (ms : List Mk) (i : Nat) : (mks (ms.drop i)).length = (ms.length - i) * 5 := by rw [mks_length]; simp
theorem ins_fin (ms : List Mk) (m : Mk) (i n : Nat) (hi : i < ms.length) (hn : n = ms.length + 1) (E : List Value) : LO.row 62 5 n (List.take (n * 5) (mks (ms.take i) ++ m.cells ++ mks (ms.drop i) ++ E)) = mrow (ms.take i ++ m :: ms.drop i) := by
  subst hn
  have l1 : (mks (ms.take i) ++ m.cells ++ mks (ms.drop i)).length = (ms.length + 1) * 5 := by simp [mks_length, Mk.cells]; omega
  rw [List.take_left' l1]
  have l2 : (ms.take i ++ m :: ms.drop i).length = ms.length + 1 := by simp; omega
  simp only [mrow, l2, mks_append, mks_cons, List.append_assoc]
theorem ins1 (ms : List Mk) (m : Mk) (i n : Nat) (hi : i < ms.length) (hn : n = ms.length + 1) (ys zs ys2 D E : List Value) :
    LO.row 62 5 n (List.take (n * 5) (List.take (0 + (i + 1) * 5) (List.take (0 + i * 5) (List.take (i * 5) (mks ms ++ ys) ++ zs ++ ys2) ++ m.cells ++ D) ++ mks (ms.drop i) ++ E)) = mrow (ms.take i ++ m :: ms.drop i) := by
  have e1 : List.take (i * 5) (mks ms ++ ys) = mks (ms.take i) := by rw [List.take_append_of_le_length (by rw [mks_length]; omega), mks_take]
  have l1 : (mks (ms.take i)).length = i * 5 := by rw [mks_length]; simp; omega
  rw [e1, Nat.zero_add, Nat.zero_add, List.append_assoc (mks (ms.take i)) zs ys2, List.take_left' l1]
  have e2 : List.take ((i + 1) * 5) (mks (ms.take i) ++ m.cells ++ D) = mks (ms.take i) ++ m.cells := List.take_left' (by rw [List.length_append, l1]; simp [Mk.cells]; omega)
  rw [e2]
  exact ins_fin ms m i n hi hn E
theorem ins2 (ms : List Mk) (m : Mk) (i n : Nat) (hi : i < ms.length) (hn : n = ms.length + 1) (ys D D' : List Value) :
    LO.row 62 5 n (List.take (n * 5) (List.take (0 + i * 5) (List.take (0 + (i + 1) * 5) (mks ms ++ ys) ++ mks (ms.drop i) ++ D) ++ m.cells ++ List.drop (0 + i * 5 + m.cells.length) (List.take (0 + (i + 1) * 5) (mks ms ++ ys) ++ mks (ms.drop i) ++ D'))) = mrow (ms.take i ++ m :: ms.drop i) := by
  have e1 : List.take ((i + 1) * 5) (mks ms ++ ys) = mks (ms.take (i + 1)) := by rw [List.take_append_of_le_length (by rw [mks_length]; omega), mks_take]
  have l1 : (mks (ms.take (i + 1))).length = (i + 1) * 5 := by rw [mks_length]; simp; omega
  have e2 : List.take (i * 5) (mks (ms.take (i + 1)) ++ mks (ms.drop i) ++ D) = mks (ms.take i) := by
    rw [List.append_assoc, List.take_append_of_le_length (by rw [l1]; omega), mks_take, List.take_take, Nat.min_eq_left (by omega)]
  have e3 : List.drop (i * 5 + m.cells.length) (mks (ms.take (i + 1)) ++ mks (ms.drop i) ++ D') = mks (ms.drop i) ++ D' := by
    rw [List.append_assoc, List.drop_left' (by rw [l1]; simp [Mk.cells]; omega)]
  rw [Nat.zero_add, Nat.zero_add, e1, e2, e3, ← List.append_assoc]
  exact ins_fin ms m i n hi hn D'
theorem insert_mid (ms : List Mk) (hms : ms.length ≤ 1000000) (m : Mk) (i : Nat) (hi : i < ms.length) : Ctr Tryd.prog [] 83 [mrow ms, .cells [.v (.int .i64 m.t), .v (.string (B m.s)), .v (.int .u64 m.q), .v (.int .i64 m.st), .v (.string (B m.d))] 62] [.one (.c (.row 0)), vv (.int .i64 i), .one (.c (.sl 1 0 1 1))]
    (fun os v => os = [.gone, .cells [.v (.int .i64 m.t), .v (.string (B m.s)), .v (.int .u64 m.q), .v (.int .i64 m.st), .v (.string (B m.d))] 62, mrow (ms.take i ++ m :: ms.drop i)] ∧ v = .one (.c (.row 2))) := by
  refine Ctr.less ?_
  intro X0 hP0 hG0 N0 hN0
  refine CallVC.inline (f := 83) (by rw [hP0]; exact Tryd.func83) rfl Tryd.ntmps83 rfl (by simp) ?_
  intro X K hU hnt hbl hK
  have hP : X.P = Tryd.prog := by rw [hU.P, hP0]
  have hG := hG0.under hU
  have hT : isStrT X.P 59 = false ∧ elemSz X.P 59 = some (62, 5) ∧ X.P.underlying 59 = some (TypeDesc.slice 62) ∧ elemInf X.P 59 = some (62, 5, 56, (Value.agg #[(Value.int IntKind.i64 0), (Value.string { data := #[] }), (Value.int IntKind.u64 0), (Value.int IntKind.i64 0), (Value.string { data := #[] })])) ∧ isStrT X.P 3 = false ∧ calleeOk X.P 131 = false ∧ calleeOk X.P 132 = true := by rw [hP]; exact ⟨Ty.is59, Ty.el59, Tryd.underlying59, Ty.ei59, Ty.is3, Ty.cx131, Ty.co132⟩
  simp only [GA, ↓GB, List.filterMap_cons, eq_self, BEq.rfl, simprocAttr] at hbl ⊢
  refine SX.openRow (t := 0) (i := 0) rfl rfl (by omega) (fun cap ys hcap1 hcap2 hys => ?_)
  simp only [GA, ↓GB, List.filterMap_cons, eq_self, BEq.rfl, simprocAttr]
  have hw1 : IntKind.i64.wrap ((ms.length : Int) + 1) = ((ms.length + 1 : Nat) : Int) := by rw [wI64 (by omega) (by omega)]; rfl
  have hw2 : IntKind.i64.wrap ((i : Int) + 1) = ((i + 1 : Nat) : Int) := by rw [wI64 (by omega) (by omega)]; rfl
  have hw3 : IntKind.i64.wrap (((ms.length + 1 : Nat) : Int) - (i : Int)) = ((ms.length + 1 - i : Nat) : Int) := by rw [wI64 (by omega) (by omega)]; omega
  repeat' (first
    | (refine SX.closeRow (code := .ret) (t := 6) (j := 4) (sz := 5) (e := 62) (cap := cap2) rfl rfl (by simp only [List.length_append, List.length_take, List.length_drop, mks_length, hys, Mk.cells, List.length_cons, List.length_nil, hzs, hys2]; omega) (by omega) hcap4 ?_ <;> simp only [GA, ↓GB, List.filterMap_cons, eq_self, BEq.rfl, simprocAttr])
    | (refine SX.closeRow (code := .ret) (t := 6) (j := 2) (sz := 5) (e := 62) (cap := cap) rfl rfl (by simp only [List.length_append, List.length_take, List.length_drop, mks_length, hys, Mk.cells, List.length_cons, List.length_nil]; omega) (by omega) hcap2 ?_ <;> simp only [GA, ↓GB, List.filterMap_cons, eq_self, BEq.rfl, simprocAttr])
    | (rw [if_neg (show ¬ cap = i by omega)])
    | (rw [if_neg (show ¬ cap = i + 1 by omega)])
    | (rw [if_neg (show ¬ cap2 = i by omega)])
    | (rw [if_neg (show ¬ cap2 = i + 1 by omega)])
    | (refine SX.openRow (code := .seq (.region 10 _ _) _) (t := 9) (i := 3) rfl rfl (by omega) (fun cap2 ys2 hcap3 hcap4 hys2 => ?_) <;> simp only [GA, ↓GB, List.filterMap_cons, eq_self, BEq.rfl, simprocAttr])
    | (refine SX.seqK ?_; intro N hN)
    | ((first | (refine SX.ops ?_) | (refine SX.planT (id := 11) [.q [(0, [9]), (1, [1]), (2, [7]), (3, [47, 48]), (4, [46, 49]), (5, [0]), (6, [1]), (7, [51, 52])] none, .s 8] ?_ ?_ ?_; (focus first | (rw [hP]; kernel_rfl) | (rw [hU1P, hP]; kernel_rfl)); (focus kernel_rfl)) | (refine SX.planT (id := 15) [.q [(0, [0]), (1, [1]), (2, [7]), (3, [70, 71]), (4, [69, 72]), (5, [0]), (6, [1]), (7, [74, 75])] none, .s 8] ?_ ?_ ?_; (focus first | (rw [hP]; kernel_rfl) | (rw [hU1P, hP]; kernel_rfl)); (focus kernel_rfl))); simp only [GA, ↓GB, List.filterMap_cons, eq_self, BEq.rfl, simprocAttr, hnt, hT, hw1, hw2, hw3, Nat.sub_zero])
    | ((first | refine SX.skip ?_ | refine SX.exit ?_ | refine SX.label ?_); try simp only [GA, ↓GB, List.filterMap_cons, eq_self, BEq.rfl, simprocAttr])
    | (refine SX.cond rfl (fun hb => ?_) (fun hb => ?_) <;> ((first | cases hb | (simp only [decide_eq_true_eq, decide_eq_false_iff_not, beq_iff_eq, beq_eq_false_iff_ne, bne_iff_ne, Bool.and_eq_true, Bool.or_eq_true, Bool.not_eq_true', Bool.not_eq_false', Bool.and_eq_false_iff, Bool.or_eq_false_iff, Int.not_lt, Int.not_le] at hb) | skip) <;> (first | (exfalso; omega) | skip)))
    | (refine SX.ret ?_; try simp only [GA, ↓GB, List.filterMap_cons, eq_self, BEq.rfl, simprocAttr])
    | (refine hN _ ?_; clear hN N)
    | ((first | refine hK _ _ (FinI.ret3 ?_) | refine hK _ _ (FinI.nrm3 ?_)); simp only [GA, ↓GB, List.filterMap_cons, eq_self, BEq.rfl, simprocAttr, finP_s, hnt, hT, hw1, hw2, hw3, Nat.sub_zero]; refine Done.out ?_)
    | (clear hN N; first | (refine hN _ ?_; clear hN N) | (clear hN N; first | (refine hN _ ?_; clear hN N) | (clear hN N; first | (refine hN _ ?_; clear hN N) | (clear hN N; first | (refine hN _ ?_; clear hN N) | (clear hN N; first | (refine hN _ ?_; clear hN N) | (refine hN _ ?_; clear hN N))))))
    | (refine bif2.mk (fun hb => ?_) (fun hb => ?_) <;> (try simp only [hb, GA, ↓GB, List.filterMap_cons, eq_self, BEq.rfl, simprocAttr, hnt, hT, hw1, hw2, hw3, Nat.sub_zero]) <;> ((first | cases hb | (simp only [decide_eq_true_eq, decide_eq_false_iff_not, beq_iff_eq, beq_eq_false_iff_ne, bne_iff_ne, Bool.and_eq_true, Bool.or_eq_true, Bool.not_eq_true', Bool.not_eq_false', Bool.and_eq_false_iff, Bool.or_eq_false_iff, Int.not_lt, Int.not_le] at hb) | skip) <;> (first | (exfalso; omega) | skip)))
    | ((show VO X _ _ _ <;> refine VO.capSl (e := 62) rfl (by rw [hP]; kernel_rfl) ?_ <;> simp only [GA, ↓GB, List.filterMap_cons, eq_self, BEq.rfl, simprocAttr, hnt, hT]))
    | ((show VO X _ _ _ <;> refine VO.appendZeros (e := 62) (e1 := 62) (us := mks ms ++ ys) (k := ms.length + 1 - i) (kn := .i64) rfl rfl (by rw [hP]; exact Ty.ei59) (by rw [hP]; kernel_rfl) rfl (by rw [List.length_append, mks_length]; omega) (by omega) (by omega) (by omega) (by omega) (fun zs hzs => ?_) <;> simp only [GA, ↓GB, List.filterMap_cons, eq_self, BEq.rfl, simprocAttr, hnt, hT]))
    | ((show VO X _ _ _ <;> refine VO.copySl (e := 62) (ws := m.cells) (e2 := 62) (sz := 5) (vs := m.cells) (q := 1) rfl rfl (by rw [hP]; kernel_rfl) (by rw [hP]; kernel_rfl) rfl rfl (by show min _ _ = _; omega) rfl rfl (by simp only [List.length_append, List.length_take, List.length_drop, mks_length, hys, Mk.cells, List.length_cons, List.length_nil]; omega) (cells_one m) ?_ <;> simp only [GA, ↓GB, List.filterMap_cons, eq_self, BEq.rfl, simprocAttr, hnt, hT]))
    | ((show VO X _ _ _ <;> refine VO.copySl (e := 62) (ws := m.cells) (e2 := 62) (sz := 5) (vs := m.cells) (q := 1) rfl rfl (by rw [hP]; kernel_rfl) (by rw [hP]; kernel_rfl) rfl rfl (by show min _ _ = _; omega) rfl rfl (by simp only [List.length_append, List.length_take, List.length_drop, mks_length, hys, Mk.cells, List.length_cons, List.length_nil, hzs, hys2]; omega) (cells_one m) ?_ <;> simp only [GA, ↓GB, List.filterMap_cons, eq_self, BEq.rfl, simprocAttr, hnt, hT]))
    | ((show VO X _ _ _ <;> refine VO.copySl (e := 62) (ws := mks ms ++ ys) (e2 := 62) (sz := 5) (vs := mks (ms.drop i)) (q := ms.length - i) rfl rfl (by rw [hP]; kernel_rfl) (by rw [hP]; kernel_rfl) rfl rfl (by show min _ _ = _; omega) (src_eq ms ys i hi) (src_len ms i) (by simp only [List.length_append, List.length_take, List.length_drop, mks_length, hys, Mk.cells, List.length_cons, List.length_nil]; omega) (mks_one _) ?_ <;> simp only [GA, ↓GB, List.filterMap_cons, eq_self, BEq.rfl, simprocAttr, hnt, hT]))
    | ((show VO X _ _ _ <;> refine VO.copySl (e := 62) (ws := mks ms ++ ys) (e2 := 62) (sz := 5) (vs := mks (ms.drop i)) (q := ms.length - i) rfl rfl (by rw [hP]; kernel_rfl) (by rw [hP]; kernel_rfl) rfl rfl (by show min _ _ = _; omega) (src_eq ms ys i hi) (src_len ms i) (by simp only [List.length_append, List.length_take, List.length_drop, mks_length, hys, Mk.cells, List.length_cons, List.length_nil, hzs, hys2]; omega) (mks_one _) ?_ <;> simp only [GA, ↓GB, List.filterMap_cons, eq_self, BEq.rfl, simprocAttr, hnt, hT]))
    | ((show VO X _ _ _ <;> refine VO.overlaps (us := m.cells) (ws := mks ms ++ ys) (e1 := 62) (e2 := 62) rfl rfl rfl rfl (by decide) (by rw [List.length_append, mks_length]; omega) (overlaps_run hP) ?_ <;> simp only [GA, ↓GB, List.filterMap_cons, eq_self, BEq.rfl, simprocAttr, hnt, hT]))
    | (refine SX.block ?_)
    | (refine and_mk ?_ ?_; (focus first | decide | omega | rfl | assumption | (simp only [List.length_append, List.length_cons, List.length_nil, B_size]; omega) | (simp; done)))
    | (refine And.intro ?_ ?_))
  all_goals (try refine Done.mk ?_)
  · rw [ins1 ms m i _ hi (by omega)]
    (refine hN0 _ _ ⟨[0, 1, 5], _, _, ?_, ?_, ?_, ⟨rfl, rfl⟩⟩; (focus exact LeR.of rfl trivial (by simp only [GA, ↓GB, List.filterMap_cons, eq_self, BEq.rfl, simprocAttr, List.getD_cons_zero, List.getD_cons_succ, or_false, false_or, or_self, or_true, true_or, decide_true]) (by decide) rfl rfl rfl); rotate_left; (focus rfl))
    rfl
  · rw [ins2 ms m i _ hi (by omega)]
    (refine hN0 _ _ ⟨[0, 1, 3], _, _, ?_, ?_, ?_, ⟨rfl, rfl⟩⟩; (focus exact LeR.of rfl trivial (by simp only [GA, ↓GB, List.filterMap_cons, eq_self, BEq.rfl, simprocAttr, List.getD_cons_zero, List.getD_cons_succ, or_false, false_or, or_self, or_true, true_or, decide_true]) (by decide) rfl rfl rfl); rotate_left; (focus rfl))
    rfl
end Go.Proofs.YtbdacbcpniegiaaDoor
namespace Go.Proofs.YtbdacbcpniegiaaDoor.Q
open Go Go.RowKit Go.Proofs Go.Sx
set_option maxHeartbeats 4000000
set_option maxRecDepth 100000
set_option linter.unusedSimpArgs false
set_option linter.unusedVariables false
def isK (b : Int) (t : List UInt8) (m : Rs) : Bool := m.t == b && m.s == t
def isO (x m : Rs) : Bool := decide (0 < cmpKey m.t m.s x.t x.s)
theorem of1_ctr (m : Rs) (b : Int) (t : List UInt8) : Ctr Tryd.prog [] 147 [.cells [.v (.int .i64 b), .v (.string (B t))] 26] [.one (.agg [.v (.int .i64 m.t), .v (.string (B m.s)), .v (.int .u64 m.q), .v (.bool m.g), .v (.string (B m.b))]), .one (.c (.loc 0 0))]
    (fun os v => os = [.cells [.v (.int .i64 b), .v (.string (B t))] 26] ∧ v = vv (.bool (isK b t m))) := by
  refine Ctr.less ?_
  intro X0 hP0 hG0 N0 hN0
  refine CallVC.inline (f := 147) (by rw [hP0]; exact Tryd.func147) rfl Tryd.ntmps147 rfl (by simp) ?_
  intro X K hU hnt hbl hK
  have hP : X.P = Tryd.prog := by rw [hU.P, hP0]
  have hG := hG0.under hU
  have hT : fieldOff X.P 89 0 = some 0 ∧ aggOf X.P 26 = some true ∧ szOf X.P 26 = some 2 := by rw [hP]; exact ⟨Ty.fo89_0, Ty.ag26, Ty.sz26⟩
  simp only [GA, ↓GB, List.filterMap_cons, eq_self, BEq.rfl, simprocAttr] at hbl ⊢
  repeat' (first
    | (refine SX.seqK ?_; intro N hN)
    | ((first | (refine SX.ops ?_)); simp only [GA, ↓GB, List.filterMap_cons, eq_self, BEq.rfl, simprocAttr, hnt, hT])
    | ((first | refine SX.skip ?_ | refine SX.exit ?_ | refine SX.label ?_); try simp only [GA, ↓GB, List.filterMap_cons, eq_self, BEq.rfl, simprocAttr])
    | (refine SX.cond rfl (fun hb => ?_) (fun hb => ?_) <;> ((first | cases hb | (simp only [decide_eq_true_eq, decide_eq_false_iff_not, beq_iff_eq, beq_eq_false_iff_ne, bne_iff_ne, Bool.and_eq_true, Bool.or_eq_true, Bool.not_eq_true', Bool.not_eq_false', Bool.and_eq_false_iff, Bool.or_eq_false_iff, Int.not_lt, Int.not_le] at hb) | skip) <;> (first | (exfalso; omega) | skip)))
    | (refine SX.ret ?_; try simp only [GA, ↓GB, List.filterMap_cons, eq_self, BEq.rfl, simprocAttr])
    | (refine hN _ ?_; clear hN N)
    | ((first | refine hK _ _ (FinI.ret3 ?_) | refine hK _ _ (FinI.nrm3 ?_)); simp only [GA, ↓GB, List.filterMap_cons, eq_self, BEq.rfl, simprocAttr, finP_s, hnt, hT]; refine Done.out ?_)
    | (clear hN N; first | (refine hN _ ?_; clear hN N) | (clear hN N; first | (refine hN _ ?_; clear hN N) | (clear hN N; first | (refine hN _ ?_; clear hN N) | (clear hN N; first | (refine hN _ ?_; clear hN N) | (clear hN N; first | (refine hN _ ?_; clear hN N) | (refine hN _ ?_; clear hN N))))))
    | (refine bif2.mk (fun hb => ?_) (fun hb => ?_) <;> (try simp only [hb, GA, ↓GB, List.filterMap_cons, eq_self, BEq.rfl, simprocAttr, hnt, hT]) <;> ((first | cases hb | (simp only [decide_eq_true_eq, decide_eq_false_iff_not, beq_iff_eq, beq_eq_false_iff_ne, bne_iff_ne, Bool.and_eq_true, Bool.or_eq_true, Bool.not_eq_true', Bool.not_eq_false', Bool.and_eq_false_iff, Bool.or_eq_false_iff, Int.not_lt, Int.not_le] at hb) | skip) <;> (first | (exfalso; omega) | skip)))
    | (refine ⟨_, strEq_to hP (Ty.eqS26 _ _ _ _), ?_⟩)
    | (refine SX.block ?_)
    | (refine and_mk ?_ ?_; (focus first | decide | omega | rfl | assumption | (simp only [List.length_append, List.length_cons, List.length_nil, B_size]; omega) | (simp; done)))
    | (refine And.intro ?_ ?_))
  all_goals (try refine Done.mk ?_)
  all_goals ((refine hN0 _ _ ⟨[0], _, _, ?_, ?_, ?_, ⟨rfl, rfl⟩⟩; (focus exact LeR.of rfl trivial (by simp only [GA, ↓GB, List.filterMap_cons, eq_self, BEq.rfl, simprocAttr, List.getD_cons_zero, List.getD_cons_succ, or_false, false_or, or_self, or_true, true_or, decide_true]) (by decide) rfl rfl rfl); rotate_left; (focus rfl)); rfl)
theorem set1_ctr (m x : Rs) : Ctr Tryd.prog [] 113 [.cells [.v (.int .i64 x.t), .v (.string (B x.s)), .v (.int .u64 x.q), .v (.bool x.g), .v (.string (B x.b))] 89] [.one (.agg [.v (.int .i64 m.t), .v (.string (B m.s)), .v (.int .u64 m.q), .v (.bool m.g), .v (.string (B m.b))]), .one (.c (.loc 0 0))]
    (fun os v => os = [.cells [.v (.int .i64 x.t), .v (.string (B x.s)), .v (.int .u64 x.q), .v (.bool x.g), .v (.string (B x.b))] 89] ∧ v = vv (.bool (isO x m))) := by
  refine Ctr.less ?_
  intro X0 hP0 hG0 N0 hN0
  refine CallVC.inline (f := 113) (by rw [hP0]; exact Tryd.func113) rfl Tryd.ntmps113 rfl (by simp) ?_
  intro X K hU hnt hbl hK
  have hP : X.P = Tryd.prog := by rw [hU.P, hP0]
  have hG := hG0.under hU
  have hT : fieldOff X.P 89 0 = some 0 ∧ aggOf X.P 26 = some true ∧ szOf X.P 26 = some 2 ∧ calleeOk X.P 63 = true := by rw [hP]; exact ⟨Ty.fo89_0, Ty.ag26, Ty.sz26, Ty.co63⟩
  simp only [GA, ↓GB, List.filterMap_cons, eq_self, BEq.rfl, simprocAttr] at hbl ⊢
  repeat' (first
    | (refine SX.seqK ?_; intro N hN)
    | ((first | (refine SX.ops ?_)); simp only [GA, ↓GB, List.filterMap_cons, eq_self, BEq.rfl, simprocAttr, hnt, hT])
    | ((first | refine SX.skip ?_ | refine SX.exit ?_ | refine SX.label ?_); try simp only [GA, ↓GB, List.filterMap_cons, eq_self, BEq.rfl, simprocAttr])
    | (refine SX.cond rfl (fun hb => ?_) (fun hb => ?_) <;> ((first | cases hb | (simp only [decide_eq_true_eq, decide_eq_false_iff_not, beq_iff_eq, beq_eq_false_iff_ne, bne_iff_ne, Bool.and_eq_true, Bool.or_eq_true, Bool.not_eq_true', Bool.not_eq_false', Bool.and_eq_false_iff, Bool.or_eq_false_iff, Int.not_lt, Int.not_le] at hb) | skip) <;> (first | (exfalso; omega) | skip)))
    | (refine SX.ret ?_; try simp only [GA, ↓GB, List.filterMap_cons, eq_self, BEq.rfl, simprocAttr])
    | (refine hN _ ?_; clear hN N)
    | ((first | refine hK _ _ (FinI.ret3 ?_) | refine hK _ _ (FinI.nrm3 ?_)); simp only [GA, ↓GB, List.filterMap_cons, eq_self, BEq.rfl, simprocAttr, finP_s, hnt, hT]; refine Done.out ?_)
    | (clear hN N; first | (refine hN _ ?_; clear hN N) | (clear hN N; first | (refine hN _ ?_; clear hN N) | (clear hN N; first | (refine hN _ ?_; clear hN N) | (clear hN N; first | (refine hN _ ?_; clear hN N) | (clear hN N; first | (refine hN _ ?_; clear hN N) | (refine hN _ ?_; clear hN N))))))
    | (refine bif2.mk (fun hb => ?_) (fun hb => ?_) <;> (try simp only [hb, GA, ↓GB, List.filterMap_cons, eq_self, BEq.rfl, simprocAttr, hnt, hT]) <;> ((first | cases hb | (simp only [decide_eq_true_eq, decide_eq_false_iff_not, beq_iff_eq, beq_eq_false_iff_ne, bne_iff_ne, Bool.and_eq_true, Bool.or_eq_true, Bool.not_eq_true', Bool.not_eq_false', Bool.and_eq_false_iff, Bool.or_eq_false_iff, Int.not_lt, Int.not_le] at hb) | skip) <;> (first | (exfalso; omega) | skip)))
    | ((first | (refine CallVC.pv hP (order_any m.t x.t m.s x.s) rfl ?_) | (refine CallQ.pv hP (order_any m.t x.t m.s x.s) rfl ?_)); simp only [GA, ↓GB, List.filterMap_cons, eq_self, BEq.rfl, simprocAttr, hnt, hT])
    | (refine SX.block ?_)
    | (refine and_mk ?_ ?_; (focus first | decide | omega | rfl | assumption | (simp only [List.length_append, List.length_cons, List.length_nil, B_size]; omega) | (simp; done)))
    | (refine And.intro ?_ ?_))
  all_goals (try refine Done.mk ?_)
  all_goals ((refine hN0 _ _ ⟨[0], _, _, ?_, ?_, ?_, ⟨rfl, rfl⟩⟩; (focus exact LeR.of rfl trivial (by simp only [GA, ↓GB, List.filterMap_cons, eq_self, BEq.rfl, simprocAttr, List.getD_cons_zero, List.getD_cons_succ, or_false, false_or, or_self, or_true, true_or, decide_true]) (by decide) rfl rfl rfl); rotate_left; (focus rfl)); rfl)
end Go.Proofs.YtbdacbcpniegiaaDoor.Q
namespace Go.Proofs.YtbdacbcpniegiaaDoor.Q
open Go Go.RowKit Go.Proofs Go.Sx
set_option maxHeartbeats 4000000
set_option maxRecDepth 100000
set_option linter.unusedSimpArgs false
set_option linter.unusedVariables false
def mks (ms : List Rs) : List Value := ms.flatMap Rs.cells
theorem mks_cons (m : Rs) (ms : List Rs) : mks (m :: ms) = m.cells ++ mks ms := rfl
theorem mks_append (a b : List Rs) : mks (a ++ b) = mks a ++ mks b := by simp [mks]
theorem mks_length : ∀ ms : List Rs, (mks ms).length = ms.length * 5
  | [] => rfl
  | m :: ms => by rw [mks_cons, List.length_append, mks_length ms]; simp [Rs.cells]; omega
theorem mks_drop : ∀ (i : Nat) (ms : List Rs), (mks ms).drop (i * 5) = mks (ms.drop i)
  | 0, ms => by simp
  | i + 1, [] => by simp [mks]
  | i + 1, m :: ms => by
    rw [mks_cons, show (i + 1) * 5 = m.cells.length + i * 5 by simp [Rs.cells]; omega, List.drop_append, Nat.add_sub_cancel_left, mks_drop i ms, List.drop_of_length_le (by omega)]
    rfl
theorem mks_take : ∀ (i : Nat) (ms : List Rs), (mks ms).take (i * 5) = mks (ms.take i)
  | 0, ms => by simp [mks]
  | i + 1, [] => by simp [mks]
  | i + 1, m :: ms => by
    rw [mks_cons, show (i + 1) * 5 = m.cells.length + i * 5 by simp [Rs.cells]; omega, List.take_append, List.take_succ_cons, mks_cons, Nat.add_sub_cancel_left, mks_take i ms, List.take_of_length_le (by omega)]
theorem mks_at (ms : List Rs) (i : Nat) (h : i < ms.length) : ((mks ms).drop (i * 5)).take 5 = (ms.getD i default).cells := by
  rw [mks_drop, List.drop_eq_getElem_cons h, mks_cons, List.getD_eq_getElem?_getD, List.getElem?_eq_getElem h]
  simp [Rs.cells]
@[reducible] def mrow (ms : List Rs) : LO := .row 89 5 ms.length (mks ms)
def idxI (p : Rs → Bool) (ms : List Rs) : Int := match ms.findIdx? p with | some i => i | none => -1
theorem idxN (p : Rs → Bool) (ms : List Rs) (i : Nat) (hi : i < ms.length) (hp : p (ms.getD i default) = true) (hn : ∀ j, j < i → p (ms.getD j default) = false) : idxI p ms = i := by
  have : ms.findIdx? p = some i := by
    rw [List.findIdx?_eq_some_iff_getElem]
    refine ⟨hi, by simpa [List.getD_eq_getElem?_getD, List.getElem?_eq_getElem hi] using hp, fun j hj => ?_⟩
    have := hn j hj
    rw [List.getD_eq_getElem?_getD, List.getElem?_eq_getElem (by omega)] at this
    simpa using this
  simp [idxI, this]
theorem idxNone (p : Rs → Bool) (ms : List Rs) (hn : ∀ j, j < ms.length → p (ms.getD j default) = false) : idxI p ms = -1 := by
  have : ms.findIdx? p = none := by
    rw [List.findIdx?_eq_none_iff]
    intro x hx
    obtain ⟨j, hj, rfl⟩ := List.mem_iff_getElem.1 hx
    have := hn j hj
    rw [List.getD_eq_getElem?_getD, List.getElem?_eq_getElem hj] at this
    simpa using this
  simp [idxI, this]
theorem indexFuncK (ms : List Rs) (hms : ms.length ≤ 1000000) (b : Int) (t : List UInt8) : Ctr Tryd.prog [] 112 [mrow ms, .cells [.v (.int .i64 b), .v (.string (B t))] 26] [.one (.c (.row 0)), .one (.c (.clo 147 [] [.loc 1 0]))]
    (fun os v => os = [mrow ms, .cells [.v (.int .i64 b), .v (.string (B t))] 26] ∧ v = vv (.int .i64 (idxI (isK b t) ms))) := by
  have hrun : ∀ m : Rs, Ctr Tryd.prog [] 147 [.cells [.v (.int .i64 b), .v (.string (B t))] 26] [.one (.agg [.v (.int .i64 m.t), .v (.string (B m.s)), .v (.int .u64 m.q), .v (.bool m.g), .v (.string (B m.b))]), .one (.c (.loc 0 0))]
    (fun os v => os = [.cells [.v (.int .i64 b), .v (.string (B t))] 26] ∧ v = vv (.bool ((isK b t) m))) := fun m => of1_ctr m b t
  intro X0 hP0 hG0 N0 hN0
  refine CallVC.inline (f := 112) (by rw [hP0]; exact Tryd.func112) rfl Tryd.ntmps112 rfl (by simp) ?_
  intro X K hU hnt hbl hK
  have hP : X.P = Tryd.prog := by rw [hU.P, hP0]
  have hG := hG0.under hU
  have hT : X.P.underlying 79 = some (TypeDesc.slice 89) ∧ elemSz X.P 79 = some (89, 5) ∧ aggOf X.P 89 = some true ∧ szOf X.P 89 = some 5 := by rw [hP]; exact ⟨Tryd.underlying79, Ty.el79, Ty.ag89, Ty.sz89⟩
  simp only [GA, ↓GB, List.filterMap_cons, eq_self, BEq.rfl, simprocAttr] at hbl ⊢
  have hc : calleeOk X.P 147 = true := by rw [hP]; kernel_rfl
  repeat' (first
    | (refine SX.seqK ?_; intro N hN)
    | ((first | (refine SX.ops ?_)); simp only [GA, ↓GB, List.filterMap_cons, eq_self, BEq.rfl, simprocAttr, hnt, hT, hc])
    | ((first | refine SX.skip ?_ | refine SX.exit ?_ | refine SX.label ?_); try simp only [GA, ↓GB, List.filterMap_cons, eq_self, BEq.rfl, simprocAttr])
    | (refine SX.cond rfl (fun hb => ?_) (fun hb => ?_) <;> ((first | cases hb | (simp only [decide_eq_true_eq, decide_eq_false_iff_not, beq_iff_eq, beq_eq_false_iff_ne, bne_iff_ne, Bool.and_eq_true, Bool.or_eq_true, Bool.not_eq_true', Bool.not_eq_false', Bool.and_eq_false_iff, Bool.or_eq_false_iff, Int.not_lt, Int.not_le] at hb) | skip) <;> (first | (exfalso; omega) | skip)))
    | (refine SX.ret ?_; try simp only [GA, ↓GB, List.filterMap_cons, eq_self, BEq.rfl, simprocAttr])
    | (refine hN _ ?_; clear hN N)
    | ((first | refine hK _ _ (FinI.ret3 ?_) | refine hK _ _ (FinI.nrm3 ?_)); simp only [GA, ↓GB, List.filterMap_cons, eq_self, BEq.rfl, simprocAttr, finP_s, hnt, hT, hc]; refine Done.out ?_)
    | (clear hN N; first | (refine hN _ ?_; clear hN N) | (clear hN N; first | (refine hN _ ?_; clear hN N) | (clear hN N; first | (refine hN _ ?_; clear hN N) | (clear hN N; first | (refine hN _ ?_; clear hN N) | (clear hN N; first | (refine hN _ ?_; clear hN N) | (refine hN _ ?_; clear hN N))))))
    | (refine bif2.mk (fun hb => ?_) (fun hb => ?_) <;> (try simp only [hb, GA, ↓GB, List.filterMap_cons, eq_self, BEq.rfl, simprocAttr, hnt, hT, hc]) <;> ((first | cases hb | (simp only [decide_eq_true_eq, decide_eq_false_iff_not, beq_iff_eq, beq_eq_false_iff_ne, bne_iff_ne, Bool.and_eq_true, Bool.or_eq_true, Bool.not_eq_true', Bool.not_eq_false', Bool.and_eq_false_iff, Bool.or_eq_false_iff, Int.not_lt, Int.not_le] at hb) | skip) <;> (first | (exfalso; omega) | skip)))
    | ((first | (refine Ctr.use (hrun (ms.getD i default)) hP ?_ [1] ?_ rfl rfl ?_; (focus (intro p hp; cases hp)); (focus (refine LeR.of rfl trivial ?_ ?_ ?_ ?_ ?_ <;> first | decide | (simp only [GA, ↓GB, List.filterMap_cons, eq_self, BEq.rfl, simprocAttr, List.getD_cons_zero, List.getD_cons_succ, or_false, false_or, or_self, or_true, true_or, decide_true]; done))); intro os' s hR; obtain ⟨rfl, rfl⟩ := hR)); simp only [GA, ↓GB, List.filterMap_cons, eq_self, BEq.rfl, simprocAttr, hnt, hT, hc])
    | (refine SX.loop (ι := { i : Nat // i ≤ ms.length ∧ ∀ j, j < i → (isK b t) (ms.getD j default) = false }) (fun i => ⟨[(0, .one (.c (.row 0))), (1, .one (.c (.clo 147 [] [.loc 1 0]))), (7, vv (.int .i64 ms.length)), (8, vv (.int .i64 i.1))], [mrow ms, .cells [.v (.int .i64 b), .v (.string (B t))] 26]⟩) (fun i => ms.length - i.1) ⟨0, by omega, fun j hj => absurd hj (Nat.not_lt_zero j)⟩ ⟨[0, 1], (LeR.of (by rw [hbl]; decide) (by simp only [GA, ↓GB, List.filterMap_cons, eq_self, BEq.rfl, simprocAttr, List.getD_cons_zero, List.getD_cons_succ, or_false, false_or, or_self, or_true, true_or, decide_true]) (by simp only [GA, ↓GB, List.filterMap_cons, eq_self, BEq.rfl, simprocAttr, List.getD_cons_zero, List.getD_cons_succ, or_false, false_or, or_self, or_true, true_or, decide_true]) (by decide) (by simp only [GA, ↓GB, List.filterMap_cons, eq_self, BEq.rfl, simprocAttr, List.getD_cons_zero, List.getD_cons_succ, or_false, false_or, or_self, or_true, true_or, decide_true]) (by simp only [GA, ↓GB, List.filterMap_cons, eq_self, BEq.rfl, simprocAttr, List.getD_cons_zero, List.getD_cons_succ, or_false, false_or, or_self, or_true, true_or, decide_true]) (by simp only [GA, ↓GB, List.filterMap_cons, eq_self, BEq.rfl, simprocAttr, List.getD_cons_zero, List.getD_cons_succ, or_false, false_or, or_self, or_true, true_or, decide_true]))⟩ ?_ <;> rintro ⟨i, hi, hno⟩ <;> simp only [] at hi hno ⊢)
    | (refine ⟨(ms.getD i default).cells, rfl, mks_at _ _ (by omega), ?_⟩ <;> simp only [Rs.cells, GA, ↓GB, List.filterMap_cons, eq_self, BEq.rfl, simprocAttr, hnt, hT])
    | (refine SX.block ?_)
    | (refine and_mk ?_ ?_; (focus first | decide | omega | rfl | assumption | (simp only [List.length_append, List.length_cons, List.length_nil, B_size]; omega) | (simp; done)))
    | (refine And.intro ?_ ?_))
  all_goals (try refine Done.mk ?_)
  · exact hN0 _ _ ⟨rfl, by rw [idxN _ _ i (by omega) hb hno]; rfl⟩
  · refine ⟨⟨i + 1, by omega, fun j hj => ?_⟩, [0, 1], (LeR.of (by rw [hbl]; decide) (by simp only [GA, ↓GB, List.filterMap_cons, eq_self, BEq.rfl, simprocAttr, List.getD_cons_zero, List.getD_cons_succ, or_false, false_or, or_self, or_true, true_or, decide_true]; try (rw [wI64 (by omega) (by omega)]; simp)) (by simp only [GA, ↓GB, List.filterMap_cons, eq_self, BEq.rfl, simprocAttr, List.getD_cons_zero, List.getD_cons_succ, or_false, false_or, or_self, or_true, true_or, decide_true]; try (rw [wI64 (by omega) (by omega)]; simp)) (by decide) (by simp only [GA, ↓GB, List.filterMap_cons, eq_self, BEq.rfl, simprocAttr, List.getD_cons_zero, List.getD_cons_succ, or_false, false_or, or_self, or_true, true_or, decide_true]) (by simp only [GA, ↓GB, List.filterMap_cons, eq_self, BEq.rfl, simprocAttr, List.getD_cons_zero, List.getD_cons_succ, or_false, false_or, or_self, or_true, true_or, decide_true]) (by simp only [GA, ↓GB, List.filterMap_cons, eq_self, BEq.rfl, simprocAttr, List.getD_cons_zero, List.getD_cons_succ, or_false, false_or, or_self, or_true, true_or, decide_true])), by show ms.length - (i + 1) < ms.length - i; omega⟩
    rcases Nat.lt_or_eq_of_le (Nat.le_of_lt_succ hj) with h | h
    · exact hno j h
    · rw [h]; exact hb
  · exact hN0 _ _ ⟨rfl, by rw [idxNone _ _ (fun j hj => hno j (by omega))]; rfl⟩
theorem indexFuncO (ms : List Rs) (hms : ms.length ≤ 1000000) (x : Rs) : Ctr Tryd.prog [] 112 [mrow ms, .cells [.v (.int .i64 x.t), .v (.string (B x.s)), .v (.int .u64 x.q), .v (.bool x.g), .v (.string (B x.b))] 89] [.one (.c (.row 0)), .one (.c (.clo 113 [] [.loc 1 0]))]
    (fun os v => os = [mrow ms, .cells [.v (.int .i64 x.t), .v (.string (B x.s)), .v (.int .u64 x.q), .v (.bool x.g), .v (.string (B x.b))] 89] ∧ v = vv (.int .i64 (idxI (isO x) ms))) := by
  have hrun : ∀ m : Rs, Ctr Tryd.prog [] 113 [.cells [.v (.int .i64 x.t), .v (.string (B x.s)), .v (.int .u64 x.q), .v (.bool x.g), .v (.string (B x.b))] 89] [.one (.agg [.v (.int .i64 m.t), .v (.string (B m.s)), .v (.int .u64 m.q), .v (.bool m.g), .v (.string (B m.b))]), .one (.c (.loc 0 0))]
    (fun os v => os = [.cells [.v (.int .i64 x.t), .v (.string (B x.s)), .v (.int .u64 x.q), .v (.bool x.g), .v (.string (B x.b))] 89] ∧ v = vv (.bool ((isO x) m))) := fun m => set1_ctr m x
  intro X0 hP0 hG0 N0 hN0
  refine CallVC.inline (f := 112) (by rw [hP0]; exact Tryd.func112) rfl Tryd.ntmps112 rfl (by simp) ?_
  intro X K hU hnt hbl hK
  have hP : X.P = Tryd.prog := by rw [hU.P, hP0]
  have hG := hG0.under hU
  have hT : X.P.underlying 79 = some (TypeDesc.slice 89) ∧ elemSz X.P 79 = some (89, 5) ∧ aggOf X.P 89 = some true ∧ szOf X.P 89 = some 5 := by rw [hP]; exact ⟨Tryd.underlying79, Ty.el79, Ty.ag89, Ty.sz89⟩
  simp only [GA, ↓GB, List.filterMap_cons, eq_self, BEq.rfl, simprocAttr] at hbl ⊢
  have hc : calleeOk X.P 113 = true := by rw [hP]; kernel_rfl
  repeat' (first
    | (refine SX.seqK ?_; intro N hN)
    | ((first | (refine SX.ops ?_)); simp only [GA, ↓GB, List.filterMap_cons, eq_self, BEq.rfl, simprocAttr, hnt, hT, hc])
    | ((first | refine SX.skip ?_ | refine SX.exit ?_ | refine SX.label ?_); try simp only [GA, ↓GB, List.filterMap_cons, eq_self, BEq.rfl, simprocAttr])
    | (refine SX.cond rfl (fun hb => ?_) (fun hb => ?_) <;> ((first | cases hb | (simp only [decide_eq_true_eq, decide_eq_false_iff_not, beq_iff_eq, beq_eq_false_iff_ne, bne_iff_ne, Bool.and_eq_true, Bool.or_eq_true, Bool.not_eq_true', Bool.not_eq_false', Bool.and_eq_false_iff, Bool.or_eq_false_iff, Int.not_lt, Int.not_le] at hb) | skip) <;> (first | (exfalso; omega) | skip)))
    | (refine SX.ret ?_; try simp only [GA, ↓GB, List.filterMap_cons, eq_self, BEq.rfl, simprocAttr])
    | (refine hN _ ?_; clear hN N)
    | ((first | refine hK _ _ (FinI.ret3 ?_) | refine hK _ _ (FinI.nrm3 ?_)); simp only [GA, ↓GB, List.filterMap_cons, eq_self, BEq.rfl, simprocAttr, finP_s, hnt, hT, hc]; refine Done.out ?_)
    | (clear hN N; first | (refine hN _ ?_; clear hN N) | (clear hN N; first | (refine hN _ ?_; clear hN N) | (clear hN N; first | (refine hN _ ?_; clear hN N) | (clear hN N; first | (refine hN _ ?_; clear hN N) | (clear hN N; first | (refine hN _ ?_; clear hN N) | (refine hN _ ?_; clear hN N))))))
    | (refine bif2.mk (fun hb => ?_) (fun hb => ?_) <;> (try simp only [hb, GA, ↓GB, List.filterMap_cons, eq_self, BEq.rfl, simprocAttr, hnt, hT, hc]) <;> ((first | cases hb | (simp only [decide_eq_true_eq, decide_eq_false_iff_not, beq_iff_eq, beq_eq_false_iff_ne, bne_iff_ne, Bool.and_eq_true, Bool.or_eq_true, Bool.not_eq_true', Bool.not_eq_false', Bool.and_eq_false_iff, Bool.or_eq_false_iff, Int.not_lt, Int.not_le] at hb) | skip) <;> (first | (exfalso; omega) | skip)))
    | ((first | (refine Ctr.use (hrun (ms.getD i default)) hP ?_ [1] ?_ rfl rfl ?_; (focus (intro p hp; cases hp)); (focus (refine LeR.of rfl trivial ?_ ?_ ?_ ?_ ?_ <;> first | decide | (simp only [GA, ↓GB, List.filterMap_cons, eq_self, BEq.rfl, simprocAttr, List.getD_cons_zero, List.getD_cons_succ, or_false, false_or, or_self, or_true, true_or, decide_true]; done))); intro os' s hR; obtain ⟨rfl, rfl⟩ := hR)); simp only [GA, ↓GB, List.filterMap_cons, eq_self, BEq.rfl, simprocAttr, hnt, hT, hc])
    | (refine SX.loop (ι := { i : Nat // i ≤ ms.length ∧ ∀ j, j < i → (isO x) (ms.getD j default) = false }) (fun i => ⟨[(0, .one (.c (.row 0))), (1, .one (.c (.clo 113 [] [.loc 1 0]))), (7, vv (.int .i64 ms.length)), (8, vv (.int .i64 i.1))], [mrow ms, .cells [.v (.int .i64 x.t), .v (.string (B x.s)), .v (.int .u64 x.q), .v (.bool x.g), .v (.string (B x.b))] 89]⟩) (fun i => ms.length - i.1) ⟨0, by omega, fun j hj => absurd hj (Nat.not_lt_zero j)⟩ ⟨[0, 1], (LeR.of (by rw [hbl]; decide) (by simp only [GA, ↓GB, List.filterMap_cons, eq_self, BEq.rfl, simprocAttr, List.getD_cons_zero, List.getD_cons_succ, or_false, false_or, or_self, or_true, true_or, decide_true]) (by simp only [GA, ↓GB, List.filterMap_cons, eq_self, BEq.rfl, simprocAttr, List.getD_cons_zero, List.getD_cons_succ, or_false, false_or, or_self, or_true, true_or, decide_true]) (by decide) (by simp only [GA, ↓GB, List.filterMap_cons, eq_self, BEq.rfl, simprocAttr, List.getD_cons_zero, List.getD_cons_succ, or_false, false_or, or_self, or_true, true_or, decide_true]) (by simp only [GA, ↓GB, List.filterMap_cons, eq_self, BEq.rfl, simprocAttr, List.getD_cons_zero, List.getD_cons_succ, or_false, false_or, or_self, or_true, true_or, decide_true]) (by simp only [GA, ↓GB, List.filterMap_cons, eq_self, BEq.rfl, simprocAttr, List.getD_cons_zero, List.getD_cons_succ, or_false, false_or, or_self, or_true, true_or, decide_true]))⟩ ?_ <;> rintro ⟨i, hi, hno⟩ <;> simp only [] at hi hno ⊢)
    | (refine ⟨(ms.getD i default).cells, rfl, mks_at _ _ (by omega), ?_⟩ <;> simp only [Rs.cells, GA, ↓GB, List.filterMap_cons, eq_self, BEq.rfl, simprocAttr, hnt, hT])
    | (refine SX.block ?_)
    | (refine and_mk ?_ ?_; (focus first | decide | omega | rfl | assumption | (simp only [List.length_append, List.length_cons, List.length_nil, B_size]; omega) | (simp; done)))
    | (refine And.intro ?_ ?_))
  all_goals (try refine Done.mk ?_)
  · exact hN0 _ _ ⟨rfl, by rw [idxN _ _ i (by omega) hb hno]; rfl⟩
  · refine ⟨⟨i + 1, by omega, fun j hj => ?_⟩, [0, 1], (LeR.of (by rw [hbl]; decide) (by simp only [GA, ↓GB, List.filterMap_cons, eq_self, BEq.rfl, simprocAttr, List.getD_cons_zero, List.getD_cons_succ, or_false, false_or, or_self, or_true, true_or, decide_true]; try (rw [wI64 (by omega) (by omega)]; simp)) (by simp only [GA, ↓GB, List.filterMap_cons, eq_self, BEq.rfl, simprocAttr, List.getD_cons_zero, List.getD_cons_succ, or_false, false_or, or_self, or_true, true_or, decide_true]; try (rw [wI64 (by omega) (by omega)]; simp)) (by decide) (by simp only [GA, ↓GB, List.filterMap_cons, eq_self, BEq.rfl, simprocAttr, List.getD_cons_zero, List.getD_cons_succ, or_false, false_or, or_self, or_true, true_or, decide_true]) (by simp only [GA, ↓GB, List.filterMap_cons, eq_self, BEq.rfl, simprocAttr, List.getD_cons_zero, List.getD_cons_succ, or_false, false_or, or_self, or_true, true_or, decide_true]) (by simp only [GA, ↓GB, List.filterMap_cons, eq_self, BEq.rfl, simprocAttr, List.getD_cons_zero, List.getD_cons_succ, or_false, false_or, or_self, or_true, true_or, decide_true])), by show ms.length - (i + 1) < ms.length - i; omega⟩
    rcases Nat.lt_or_eq_of_le (Nat.le_of_lt_succ hj) with h | h
    · exact hno j h
    · rw [h]; exact hb
  · exact hN0 _ _ ⟨rfl, by rw [idxNone _ _ (fun j hj => hno j (by omega))]; rfl⟩
end Go.Proofs.YtbdacbcpniegiaaDoor.Q
namespace Go.Proofs.YtbdacbcpniegiaaDoor.Q
open Go Go.RowKit Go.Proofs Go.Sx
set_option maxHeartbeats 4000000
set_option maxRecDepth 100000
set_option linter.unusedSimpArgs false
set_option linter.unusedVariables false
theorem mks_one (ms : List Rs) : ∀ u ∈ mks ms, u.oneCell' = true := by
  intro u hu
  simp only [mks, List.mem_flatMap] at hu
  obtain ⟨m, _, hu⟩ := hu
  simp only [Rs.cells, List.mem_cons, List.not_mem_nil, or_false] at hu
  rcases hu with rfl | rfl | rfl | rfl | rfl <;> rfl
theorem clone_ctr (ms : List Rs) (hms : ms.length ≤ 1000000) : Ctr Tryd.prog [] 117 [mrow ms] [.one (.c (.row 0))]
    (fun os v => os = [mrow ms, mrow ms] ∧ v = .one (.c (.row 1))) := by
  refine Ctr.nilRow 89 5 (Ctr.less ?_)
  intro X0 hP0 hG0 N0 hN0
  refine CallVC.inline (f := 117) (by rw [hP0]; exact Tryd.func117) rfl Tryd.ntmps117 rfl (by simp) ?_
  intro X K hU hnt hbl hK
  have hP : X.P = Tryd.prog := by rw [hU.P, hP0]
  have hG := hG0.under hU
  have hT : X.P.underlying 79 = some (TypeDesc.slice 89) ∧ elemSz X.P 79 = some (89, 5) ∧ zeroCells X.P 89 = some [(Value.int IntKind.i64 0), (Value.string { data := #[] }), (Value.int IntKind.u64 0), (Value.bool false), (Value.string { data := #[] })] ∧ elemInf X.P 79 = some (89, 5, 56, (Value.agg #[(Value.int IntKind.i64 0), (Value.string { data := #[] }), (Value.int IntKind.u64 0), (Value.bool false), (Value.string { data := #[] })])) ∧ isStrT X.P 79 = false := by rw [hP]; exact ⟨Tryd.underlying79, Ty.el79, Ty.ze89, Ty.ei79, Ty.is79⟩
  simp only [GA, ↓GB, List.filterMap_cons, eq_self, BEq.rfl, simprocAttr] at hbl ⊢
  repeat' (first
    | (refine SX.seqK ?_; intro N hN)
    | ((first | (refine SX.ops ?_)); simp only [GA, ↓GB, List.filterMap_cons, eq_self, BEq.rfl, simprocAttr, hnt, hT])
    | ((first | refine SX.skip ?_ | refine SX.exit ?_ | refine SX.label ?_); try simp only [GA, ↓GB, List.filterMap_cons, eq_self, BEq.rfl, simprocAttr])
    | (refine SX.cond rfl (fun hb => ?_) (fun hb => ?_) <;> ((first | cases hb | (simp only [decide_eq_true_eq, decide_eq_false_iff_not, beq_iff_eq, beq_eq_false_iff_ne, bne_iff_ne, Bool.and_eq_true, Bool.or_eq_true, Bool.not_eq_true', Bool.not_eq_false', Bool.and_eq_false_iff, Bool.or_eq_false_iff, Int.not_lt, Int.not_le] at hb) | skip) <;> (first | (exfalso; omega) | skip)))
    | (refine SX.ret ?_; try simp only [GA, ↓GB, List.filterMap_cons, eq_self, BEq.rfl, simprocAttr])
    | (refine hN _ ?_; clear hN N)
    | ((first | refine hK _ _ (FinI.ret3 ?_) | refine hK _ _ (FinI.nrm3 ?_)); simp only [GA, ↓GB, List.filterMap_cons, eq_self, BEq.rfl, simprocAttr, finP_s, hnt, hT]; refine Done.out ?_)
    | (clear hN N; first | (refine hN _ ?_; clear hN N) | (clear hN N; first | (refine hN _ ?_; clear hN N) | (clear hN N; first | (refine hN _ ?_; clear hN N) | (clear hN N; first | (refine hN _ ?_; clear hN N) | (clear hN N; first | (refine hN _ ?_; clear hN N) | (refine hN _ ?_; clear hN N))))))
    | (refine bif2.mk (fun hb => ?_) (fun hb => ?_) <;> (try simp only [hb, GA, ↓GB, List.filterMap_cons, eq_self, BEq.rfl, simprocAttr, hnt, hT]) <;> ((first | cases hb | (simp only [decide_eq_true_eq, decide_eq_false_iff_not, beq_iff_eq, beq_eq_false_iff_ne, bne_iff_ne, Bool.and_eq_true, Bool.or_eq_true, Bool.not_eq_true', Bool.not_eq_false', Bool.and_eq_false_iff, Bool.or_eq_false_iff, Int.not_lt, Int.not_le] at hb) | skip) <;> (first | (exfalso; omega) | skip)))
    | (refine VO.rowNil (e' := 89) rfl rfl rfl (by rw [hP]; kernel_rfl) (fun b hb0 => ?_) <;> simp only [GA, ↓GB, List.filterMap_cons, eq_self, BEq.rfl, simprocAttr, hnt, hT])
    | (refine VO.closeRow (t := 5) (j := 1) (us := []) (sz := 5) (e := 89) (n := 0) (cap := 0) rfl rfl rfl (Nat.le_refl _) (Nat.zero_le _) ?_ <;> refine VO.appendRow (i := 2) (j := 0) (e := 89) (e' := 89) (sz := 5) rfl rfl (by rw [hP]; exact Ty.ei79) rfl rfl (mks_one ms) (by simp only [maxLen]; omega) (by omega) ?_ <;> simp only [GA, ↓GB, List.filterMap_cons, eq_self, BEq.rfl, simprocAttr, hnt, hT, Nat.zero_add])
    | (refine SX.block ?_)
    | (refine and_mk ?_ ?_; (focus first | decide | omega | rfl | assumption | (simp only [List.length_append, List.length_cons, List.length_nil, B_size]; omega) | (simp; done)))
    | (refine And.intro ?_ ?_))
  all_goals (try refine Done.mk ?_)
  · have h0 := hb0 rfl
    obtain rfl : ms = [] := List.length_eq_zero_iff.1 h0
    refine hN0 _ _ ⟨[0], [mrow []], vv (.slice none 0 0), ?_, rfl, rfl, .inr ⟨rfl, rfl, rfl⟩⟩
    exact LeR.of rfl trivial ⟨.inr rfl, trivial⟩ (by decide) rfl rfl rfl
  · refine hN0 _ _ ⟨[0, 3], [mrow ms, mrow ms], .one (.c (.row 1)), ?_, rfl, rfl, .inl ⟨rfl, rfl⟩⟩
    exact LeR.of rfl trivial ⟨.inr rfl, .inr rfl, trivial⟩ (by decide) rfl rfl rfl
end Go.Proofs.YtbdacbcpniegiaaDoor.Q
namespace Go.Proofs.YtbdacbcpniegiaaDoor.Q
open Go Go.RowKit Go.Proofs Go.Sx
set_option maxHeartbeats 4000000
set_option maxRecDepth 100000
set_option linter.unusedSimpArgs false
set_option linter.unusedVariables false
theorem idxI_spec (p : Rs → Bool) (ms : List Rs) : (idxI p ms = -1 ∧ ∀ j, j < ms.length → p (ms.getD j default) = false) ∨ ∃ k, k < ms.length ∧ idxI p ms = (k : Int) ∧ p (ms.getD k default) = true ∧ ∀ j, j < k → p (ms.getD j default) = false := by
  unfold idxI
  cases h : ms.findIdx? p with
  | none =>
    refine .inl ⟨rfl, fun j hj => ?_⟩
    rw [List.findIdx?_eq_none_iff] at h
    rw [List.getD_eq_getElem?_getD, List.getElem?_eq_getElem hj]
    exact h _ (List.getElem_mem hj)
  | some k =>
    rw [List.findIdx?_eq_some_iff_getElem] at h
    obtain ⟨hk, hp, hn⟩ := h
    refine .inr ⟨k, hk, rfl, by simpa [List.getD_eq_getElem?_getD, List.getElem?_eq_getElem hk] using hp, fun j hj => ?_⟩
    have := hn j hj
    simpa [List.getD_eq_getElem?_getD, List.getElem?_eq_getElem (show j < ms.length by omega)] using this
theorem filter_none (p : Rs → Bool) (ms : List Rs) (h : ∀ j, j < ms.length → p (ms.getD j default) = false) : (ms.filter fun m => !p m) = ms := by
  rw [List.filter_eq_self]
  intro x hx
  obtain ⟨j, hj, rfl⟩ := List.mem_iff_getElem.1 hx
  have := h j hj
  rw [List.getD_eq_getElem?_getD, List.getElem?_eq_getElem hj] at this
  simpa using this
theorem take_filter (p : Rs → Bool) (ms : List Rs) (k : Nat) (hk : k < ms.length) (hp : p (ms.getD k default) = true) (hn : ∀ j, j < k → p (ms.getD j default) = false) : ms.take k = ((ms.take (k + 1)).filter fun m => !p m) := by
  rw [List.take_succ_eq_append_getElem hk, List.filter_append]
  rw [List.getD_eq_getElem?_getD, List.getElem?_eq_getElem hk] at hp
  have h1 : ([ms[k]].filter fun m => !p m) = [] := by simp at hp; simp [hp]
  rw [h1, List.append_nil]
  refine (filter_none p _ fun j hj => ?_).symm
  have := hn j (by simp at hj; omega)
  simp only [List.getD_eq_getElem?_getD] at this ⊢
  rw [List.getElem?_take_of_lt (by simp at hj; omega)]
  exact this
theorem getD_drop (l ms : List Rs) (j : Nat) (h : l.drop j = ms.drop j) (hj : j < ms.length) : l.getD j default = ms.getD j default := by
  have := congrArg (fun x : List Rs => x[0]?) h
  simp only [List.getElem?_drop, Nat.add_zero] at this
  rw [List.getD_eq_getElem?_getD, List.getD_eq_getElem?_getD, this]
theorem mks_set : ∀ (l : List Rs) (i : Nat) (m : Rs), i < l.length → (mks l).take (i * 5) ++ m.cells ++ (mks l).drop (i * 5 + 5) = mks (l.set i m)
  | [], i, m, h => by simp at h
  | x :: l, 0, m, h => by
    simp only [Nat.zero_mul, List.take_zero, List.nil_append, List.set_cons_zero, mks_cons, Nat.zero_add]
    rw [List.drop_append, List.drop_of_length_le (by simp [Rs.cells])]
    simp [Rs.cells]
  | x :: l, i + 1, m, h => by
    have := mks_set l i m (by simpa using h)
    rw [List.set_cons_succ, mks_cons, mks_cons, ← this, show (i + 1) * 5 = x.cells.length + i * 5 by simp [Rs.cells]; omega, List.take_append, List.take_of_length_le (by omega), Nat.add_assoc, List.drop_append, List.drop_of_length_le (by omega)]
    simp
theorem lp_keep (p : Rs → Bool) (ms l : List Rs) (i j : Nat) (hl : l.length = ms.length) (hij : i < j) (hj : j < ms.length) (hft : l.take i = ((ms.take j).filter fun m => !p m)) (hp : p (ms.getD j default) = false) :
    (l.set i (ms.getD j default)).take (i + 1) = ((ms.take (j + 1)).filter fun m => !p m) := by
  have e : ms.getD j default = ms[j] := by rw [List.getD_eq_getElem?_getD, List.getElem?_eq_getElem hj]; rfl
  generalize ms.getD j default = v at *
  rw [List.take_succ_eq_append_getElem (by simp; omega), List.take_succ_eq_append_getElem hj, List.filter_append, ← hft, List.take_set_of_le (Nat.le_refl _), ← e]
  simp [hp]
theorem lp_skip (p : Rs → Bool) (ms l : List Rs) (i j : Nat) (hj : j < ms.length) (hft : l.take i = ((ms.take j).filter fun m => !p m)) (hp : p (ms.getD j default) = true) :
    l.take i = ((ms.take (j + 1)).filter fun m => !p m) := by
  have e : ms.getD j default = ms[j] := by rw [List.getD_eq_getElem?_getD, List.getElem?_eq_getElem hj]; rfl
  rw [List.take_succ_eq_append_getElem hj, List.filter_append, ← hft]
  rw [e] at hp
  simp [hp]
theorem lp_drop (ms l : List Rs) (i j : Nat) (v : Rs) (hij : i < j) (hdr : l.drop j = ms.drop j) : (l.set i v).drop (j + 1) = ms.drop (j + 1) := by
  rw [List.drop_set_of_lt (by omega), ← List.drop_drop (i := 1) (j := j), ← List.drop_drop (i := 1) (j := j), hdr]
theorem lp_drop' (ms l : List Rs) (j : Nat) (hdr : l.drop j = ms.drop j) : l.drop (j + 1) = ms.drop (j + 1) := by
  rw [← List.drop_drop (i := 1) (j := j), ← List.drop_drop (i := 1) (j := j), hdr]
theorem lp_end (p : Rs → Bool) (ms l : List Rs) (i j : Nat) (ys vs ds : List Value) (hl : l.length = ms.length) (hij : i < j) (hj : j = ms.length) (hft : l.take i = ((ms.take j).filter fun m => !p m)) :
    LO.row 89 5 i (List.take (i * 5) (List.take (0 + i * 5) (mks l ++ ys) ++ vs ++ ds)) = mrow (ms.filter fun m => !p m) := by
  subst hj
  rw [List.take_length] at hft
  have hi : (ms.filter fun m => !p m).length = i := by rw [← hft]; simp; omega
  have hle : i * 5 ≤ (mks l).length := by rw [mks_length]; omega
  simp only [Nat.zero_add, mrow, hi]
  congr 1
  rw [List.append_assoc, List.take_append_of_le_length (by simp; omega), List.take_take, Nat.min_self, List.take_append_of_le_length hle, mks_take, hft]
theorem deleteFuncK (ms : List Rs) (hms : ms.length ≤ 1000000) (b : Int) (t : List UInt8) : Ctr Tryd.prog [] 116 [mrow ms, .cells [.v (.int .i64 b), .v (.string (B t))] 26] [.one (.c (.row 0)), .one (.c (.clo 147 [] [.loc 1 0]))]
    (fun os v => os = [.gone, .cells [.v (.int .i64 b), .v (.string (B t))] 26, mrow (ms.filter fun m => !(isK b t) m)] ∧ v = .one (.c (.row 2))) := by
  refine Ctr.less ?_
  have hrun : ∀ m : Rs, Ctr Tryd.prog [] 147 [.cells [.v (.int .i64 b), .v (.string (B t))] 26] [.one (.agg [.v (.int .i64 m.t), .v (.string (B m.s)), .v (.int .u64 m.q), .v (.bool m.g), .v (.string (B m.b))]), .one (.c (.loc 0 0))]
    (fun os v => os = [.cells [.v (.int .i64 b), .v (.string (B t))] 26] ∧ v = vv (.bool ((isK b t) m))) := fun m => of1_ctr m b t
  rcases idxI_spec (isK b t) ms with ⟨he, hall⟩ | ⟨k0, hk0, he, hp0, hn0⟩
  · have hfil : (ms.filter fun m => !(isK b t) m) = ms := filter_none _ ms hall
    rw [hfil]
    intro X0 hP0 hG0 N0 hN0
    refine CallVC.inline (f := 116) (by rw [hP0]; exact Tryd.func116) rfl Tryd.ntmps116 rfl (by simp) ?_
    intro X K hU hnt hbl hK
    have hP : X.P = Tryd.prog := by rw [hU.P, hP0]
    have hG := hG0.under hU
    have hT : calleeOk X.P 112 = true ∧ X.P.underlying 79 = some (TypeDesc.slice 89) ∧ elemSz X.P 79 = some (89, 5) ∧ aggOf X.P 89 = some true ∧ szOf X.P 89 = some 5 ∧ zeroCells X.P 89 = some [(Value.int IntKind.i64 0), (Value.string { data := #[] }), (Value.int IntKind.u64 0), (Value.bool false), (Value.string { data := #[] })] ∧ isStrT X.P 79 = false ∧ elemInf X.P 79 = some (89, 5, 56, (Value.agg #[(Value.int IntKind.i64 0), (Value.string { data := #[] }), (Value.int IntKind.u64 0), (Value.bool false), (Value.string { data := #[] })])) := by rw [hP]; exact ⟨Ty.co112, Tryd.underlying79, Ty.el79, Ty.ag89, Ty.sz89, Ty.ze89, Ty.is79, Ty.ei79⟩
    simp only [GA, ↓GB, List.filterMap_cons, eq_self, BEq.rfl, simprocAttr] at hbl ⊢
    have hc : calleeOk X.P 147 = true := by rw [hP]; kernel_rfl
    refine SX.moveRow (t := 0) (i := 0) rfl rfl ?_
    simp only [GA, ↓GB, List.filterMap_cons, eq_self, BEq.rfl, simprocAttr]
    repeat' (first
      | (refine SX.seqK ?_; intro N hN)
      | ((first | (refine SX.ops ?_)); simp only [GA, ↓GB, List.filterMap_cons, eq_self, BEq.rfl, simprocAttr, hnt, hT, hc, he])
      | ((first | refine SX.skip ?_ | refine SX.exit ?_ | refine SX.label ?_); try simp only [GA, ↓GB, List.filterMap_cons, eq_self, BEq.rfl, simprocAttr])
      | (refine SX.cond rfl (fun hb => ?_) (fun hb => ?_) <;> ((first | cases hb | (simp only [decide_eq_true_eq, decide_eq_false_iff_not, beq_iff_eq, beq_eq_false_iff_ne, bne_iff_ne, Bool.and_eq_true, Bool.or_eq_true, Bool.not_eq_true', Bool.not_eq_false', Bool.and_eq_false_iff, Bool.or_eq_false_iff, Int.not_lt, Int.not_le] at hb) | skip) <;> (first | (exfalso; omega) | skip)))
      | (refine SX.ret ?_; try simp only [GA, ↓GB, List.filterMap_cons, eq_self, BEq.rfl, simprocAttr])
      | (refine hN _ ?_; clear hN N)
      | ((first | refine hK _ _ (FinI.ret3 ?_) | refine hK _ _ (FinI.nrm3 ?_)); simp only [GA, ↓GB, List.filterMap_cons, eq_self, BEq.rfl, simprocAttr, finP_s, hnt, hT, hc, he]; refine Done.out ?_)
      | (clear hN N; first | (refine hN _ ?_; clear hN N) | (clear hN N; first | (refine hN _ ?_; clear hN N) | (clear hN N; first | (refine hN _ ?_; clear hN N) | (clear hN N; first | (refine hN _ ?_; clear hN N) | (clear hN N; first | (refine hN _ ?_; clear hN N) | (refine hN _ ?_; clear hN N))))))
      | (refine bif2.mk (fun hb => ?_) (fun hb => ?_) <;> (try simp only [hb, GA, ↓GB, List.filterMap_cons, eq_self, BEq.rfl, simprocAttr, hnt, hT, hc, he]) <;> ((first | cases hb | (simp only [decide_eq_true_eq, decide_eq_false_iff_not, beq_iff_eq, beq_eq_false_iff_ne, bne_iff_ne, Bool.and_eq_true, Bool.or_eq_true, Bool.not_eq_true', Bool.not_eq_false', Bool.and_eq_false_iff, Bool.or_eq_false_iff, Int.not_lt, Int.not_le] at hb) | skip) <;> (first | (exfalso; omega) | skip)))
      | ((first | (refine Ctr.use (hrun (ms.getD j default)) hP ?_ [1] ?_ rfl rfl ?_; (focus (intro p hp; cases hp)); (focus (refine LeR.of rfl trivial ?_ ?_ ?_ ?_ ?_ <;> first | decide | (simp only [GA, ↓GB, List.filterMap_cons, eq_self, BEq.rfl, simprocAttr, List.getD_cons_zero, List.getD_cons_succ, or_false, false_or, or_self, or_true, true_or, decide_true]; done))); intro os' s hR; obtain ⟨rfl, rfl⟩ := hR) | (refine Ctr.use (indexFuncK ms hms b t) hP ?_ [2,1] ?_ rfl rfl ?_; (focus (intro p hp; cases hp)); (focus (refine LeR.of rfl trivial ?_ ?_ ?_ ?_ ?_ <;> first | decide | (simp only [GA, ↓GB, List.filterMap_cons, eq_self, BEq.rfl, simprocAttr, List.getD_cons_zero, List.getD_cons_succ, or_false, false_or, or_self, or_true, true_or, decide_true]; done))); intro os' s hR; obtain ⟨rfl, rfl⟩ := hR)); simp only [GA, ↓GB, List.filterMap_cons, eq_self, BEq.rfl, simprocAttr, hnt, hT, hc, he])
      | (refine SX.block ?_)
      | (refine and_mk ?_ ?_; (focus first | decide | omega | rfl | assumption | (simp only [List.length_append, List.length_cons, List.length_nil, B_size]; omega) | (simp; done)))
      | (refine And.intro ?_ ?_))
    all_goals (try refine Done.mk ?_)
    all_goals ((refine hN0 _ _ ⟨[0, 1, 2], _, _, ?_, ?_, ?_, ⟨rfl, rfl⟩⟩; (focus exact LeR.of rfl trivial (by simp only [GA, ↓GB, List.filterMap_cons, eq_self, BEq.rfl, simprocAttr, List.getD_cons_zero, List.getD_cons_succ, or_false, false_or, or_self, or_true, true_or, decide_true]) (by decide) rfl rfl rfl); rotate_left; (focus rfl)))
    all_goals rfl
  · intro X0 hP0 hG0 N0 hN0
    refine CallVC.inline (f := 116) (by rw [hP0]; exact Tryd.func116) rfl Tryd.ntmps116 rfl (by simp) ?_
    intro X K hU hnt hbl hK
    have hP : X.P = Tryd.prog := by rw [hU.P, hP0]
    have hG := hG0.under hU
    have hT : calleeOk X.P 112 = true ∧ X.P.underlying 79 = some (TypeDesc.slice 89) ∧ elemSz X.P 79 = some (89, 5) ∧ aggOf X.P 89 = some true ∧ szOf X.P 89 = some 5 ∧ zeroCells X.P 89 = some [(Value.int IntKind.i64 0), (Value.string { data := #[] }), (Value.int IntKind.u64 0), (Value.bool false), (Value.string { data := #[] })] ∧ isStrT X.P 79 = false ∧ elemInf X.P 79 = some (89, 5, 56, (Value.agg #[(Value.int IntKind.i64 0), (Value.string { data := #[] }), (Value.int IntKind.u64 0), (Value.bool false), (Value.string { data := #[] })])) := by rw [hP]; exact ⟨Ty.co112, Tryd.underlying79, Ty.el79, Ty.ag89, Ty.sz89, Ty.ze89, Ty.is79, Ty.ei79⟩
    simp only [GA, ↓GB, List.filterMap_cons, eq_self, BEq.rfl, simprocAttr] at hbl ⊢
    have hc : calleeOk X.P 147 = true := by rw [hP]; kernel_rfl
    refine SX.moveRow (t := 0) (i := 0) rfl rfl ?_
    simp only [GA, ↓GB, List.filterMap_cons, eq_self, BEq.rfl, simprocAttr]
    repeat' (first
      | (refine SX.openRow (code := .seq (.region 11 _ _) _) (t := 0) (i := 2) rfl rfl (by omega) (fun cap ys hcap1 hcap2 hys => ?_) <;> simp only [GA, ↓GB, List.filterMap_cons, eq_self, BEq.rfl, simprocAttr])
      | (refine SX.closeRow (code := .ret) (t := 4) (j := 3) (sz := 5) (cap := cap) (n := i) rfl rfl (by simp only [List.length_append, List.length_take, List.length_drop, mks_length, hvs, hys]; omega) (by omega) hcap2 ?_ <;> simp only [GA, ↓GB, List.filterMap_cons, eq_self, BEq.rfl, simprocAttr])
      | (refine SX.seqK ?_; intro N hN)
      | ((first | (refine SX.ops ?_)); simp only [GA, ↓GB, List.filterMap_cons, eq_self, BEq.rfl, simprocAttr, hnt, hT, hc, he])
      | ((first | refine SX.skip ?_ | refine SX.exit ?_ | refine SX.label ?_); try simp only [GA, ↓GB, List.filterMap_cons, eq_self, BEq.rfl, simprocAttr])
      | (refine SX.cond rfl (fun hb => ?_) (fun hb => ?_) <;> ((first | cases hb | (simp only [decide_eq_true_eq, decide_eq_false_iff_not, beq_iff_eq, beq_eq_false_iff_ne, bne_iff_ne, Bool.and_eq_true, Bool.or_eq_true, Bool.not_eq_true', Bool.not_eq_false', Bool.and_eq_false_iff, Bool.or_eq_false_iff, Int.not_lt, Int.not_le] at hb) | skip) <;> (first | (exfalso; omega) | skip)))
      | (refine SX.ret ?_; try simp only [GA, ↓GB, List.filterMap_cons, eq_self, BEq.rfl, simprocAttr])
      | (refine hN _ ?_; clear hN N)
      | ((first | refine hK _ _ (FinI.ret3 ?_) | refine hK _ _ (FinI.nrm3 ?_)); simp only [GA, ↓GB, List.filterMap_cons, eq_self, BEq.rfl, simprocAttr, finP_s, hnt, hT, hc, he]; refine Done.out ?_)
      | (clear hN N; first | (refine hN _ ?_; clear hN N) | (clear hN N; first | (refine hN _ ?_; clear hN N) | (clear hN N; first | (refine hN _ ?_; clear hN N) | (clear hN N; first | (refine hN _ ?_; clear hN N) | (clear hN N; first | (refine hN _ ?_; clear hN N) | (refine hN _ ?_; clear hN N))))))
      | (refine bif2.mk (fun hb => ?_) (fun hb => ?_) <;> (try simp only [hb, GA, ↓GB, List.filterMap_cons, eq_self, BEq.rfl, simprocAttr, hnt, hT, hc, he]) <;> ((first | cases hb | (simp only [decide_eq_true_eq, decide_eq_false_iff_not, beq_iff_eq, beq_eq_false_iff_ne, bne_iff_ne, Bool.and_eq_true, Bool.or_eq_true, Bool.not_eq_true', Bool.not_eq_false', Bool.and_eq_false_iff, Bool.or_eq_false_iff, Int.not_lt, Int.not_le] at hb) | skip) <;> (first | (exfalso; omega) | skip)))
      | ((first | (refine Ctr.use (hrun (ms.getD j default)) hP ?_ [1] ?_ rfl rfl ?_; (focus (intro p hp; cases hp)); (focus (refine LeR.of rfl trivial ?_ ?_ ?_ ?_ ?_ <;> first | decide | (simp only [GA, ↓GB, List.filterMap_cons, eq_self, BEq.rfl, simprocAttr, List.getD_cons_zero, List.getD_cons_succ, or_false, false_or, or_self, or_true, true_or, decide_true]; done))); intro os' s hR; obtain ⟨rfl, rfl⟩ := hR) | (refine Ctr.use (indexFuncK ms hms b t) hP ?_ [2,1] ?_ rfl rfl ?_; (focus (intro p hp; cases hp)); (focus (refine LeR.of rfl trivial ?_ ?_ ?_ ?_ ?_ <;> first | decide | (simp only [GA, ↓GB, List.filterMap_cons, eq_self, BEq.rfl, simprocAttr, List.getD_cons_zero, List.getD_cons_succ, or_false, false_or, or_self, or_true, true_or, decide_true]; done))); intro os' s hR; obtain ⟨rfl, rfl⟩ := hR)); simp only [GA, ↓GB, List.filterMap_cons, eq_self, BEq.rfl, simprocAttr, hnt, hT, hc, he])
      | (refine SX.loop (ι := { p : Nat × Nat × List Rs // p.1 < p.2.1 ∧ p.2.1 ≤ ms.length ∧ p.2.2.length = ms.length ∧ p.2.2.take p.1 = ((ms.take p.2.1).filter fun m => !(isK b t) m) ∧ p.2.2.drop p.2.1 = ms.drop p.2.1 }) (fun i => ⟨[(0, .one (.c (.row 2))), (1, .one (.c (.clo 147 [] [.loc 1 0]))), (5, vv (.int .i64 i.1.1)), (6, vv (.int .i64 i.1.2.1))], [.gone, .cells [.v (.int .i64 b), .v (.string (B t))] 26, .row 89 5 ms.length (mks i.1.2.2)]⟩) (fun i => ms.length - i.1.2.1) ⟨(k0, k0 + 1, ms), by simp, by simp; omega, rfl, take_filter _ ms k0 hk0 hp0 hn0, rfl⟩ ⟨[0, 1, 2], (LeR.of (by rw [hbl]; decide) (by simp only [GA, ↓GB, List.filterMap_cons, eq_self, BEq.rfl, simprocAttr, List.getD_cons_zero, List.getD_cons_succ, or_false, false_or, or_self, or_true, true_or, decide_true]; try (rw [wI64 (by omega) (by omega)]; rfl)) (by simp only [GA, ↓GB, List.filterMap_cons, eq_self, BEq.rfl, simprocAttr, List.getD_cons_zero, List.getD_cons_succ, or_false, false_or, or_self, or_true, true_or, decide_true]; try (rw [wI64 (by omega) (by omega)]; rfl)) (by decide) (by simp only [GA, ↓GB, List.filterMap_cons, eq_self, BEq.rfl, simprocAttr, List.getD_cons_zero, List.getD_cons_succ, or_false, false_or, or_self, or_true, true_or, decide_true]) (by simp only [GA, ↓GB, List.filterMap_cons, eq_self, BEq.rfl, simprocAttr, List.getD_cons_zero, List.getD_cons_succ, or_false, false_or, or_self, or_true, true_or, decide_true]) (by simp only [GA, ↓GB, List.filterMap_cons, eq_self, BEq.rfl, simprocAttr, List.getD_cons_zero, List.getD_cons_succ, or_false, false_or, or_self, or_true, true_or, decide_true]))⟩ ?_ <;> rintro ⟨⟨i, j, l⟩, hij, hjn, hl, hft, hdr⟩ <;> simp only [] at hij hjn hl hft hdr ⊢)
      | (refine ⟨(ms.getD j default).cells, rfl, (by rw [← getD_drop l ms j hdr (by omega)]; exact mks_at l j (by omega)), ?_⟩ <;> simp only [Rs.cells, GA, ↓GB, List.filterMap_cons, eq_self, BEq.rfl, simprocAttr, hnt, hT])
      | (refine ⟨by rw [mks_length]; omega, ?_⟩)
      | ((rw [if_neg (show ¬ cap = i by omega)] <;> show VO X _ _ _ <;> refine VO.clearSl (j := 3) (e1 := 89) (us := mks l ++ ys) rfl (by rw [hP]; exact Ty.ei79) rfl (by rw [List.length_append, mks_length, hys]; omega) (fun q hq => by have hq : q < 5 := hq; rcases q with _ | _ | _ | _ | _ | q <;> first | rfl | omega) (by omega) rfl (fun vs hvs => ?_) <;> simp only [GA, ↓GB, List.filterMap_cons, eq_self, BEq.rfl, simprocAttr, hnt, hT]))
      | (refine SX.block ?_)
      | (refine and_mk ?_ ?_; (focus first | decide | omega | rfl | assumption | (simp only [List.length_append, List.length_cons, List.length_nil, B_size]; omega) | (simp; done)))
      | (refine And.intro ?_ ?_))
    all_goals (try refine Done.mk ?_)
    · refine ⟨⟨(i + 1, j + 1, l.set i (ms.getD j default)), by show i + 1 < j + 1; omega, by show j + 1 ≤ ms.length; omega, by show (l.set i (ms.getD j default)).length = ms.length; rw [List.length_set]; exact hl, lp_keep _ ms l i j hl hij (by omega) hft (by assumption), lp_drop ms l i j _ hij hdr⟩, [0, 1, 2], (LeR.of (by rw [hbl]; decide) (by simp only [GA, ↓GB, List.filterMap_cons, eq_self, BEq.rfl, simprocAttr, List.getD_cons_zero, List.getD_cons_succ, or_false, false_or, or_self, or_true, true_or, decide_true]; try (first | (refine ⟨?_, ?_⟩ <;> (rw [wI64 (by omega) (by omega)]; rfl)) | exact congrArg _ (mks_set l i (ms.getD j default) (by omega)))) (by simp only [GA, ↓GB, List.filterMap_cons, eq_self, BEq.rfl, simprocAttr, List.getD_cons_zero, List.getD_cons_succ, or_false, false_or, or_self, or_true, true_or, decide_true]; try (first | (refine ⟨?_, ?_⟩ <;> (rw [wI64 (by omega) (by omega)]; rfl)) | exact congrArg _ (mks_set l i (ms.getD j default) (by omega)))) (by decide) (by simp only [GA, ↓GB, List.filterMap_cons, eq_self, BEq.rfl, simprocAttr, List.getD_cons_zero, List.getD_cons_succ, or_false, false_or, or_self, or_true, true_or, decide_true]) (by simp only [GA, ↓GB, List.filterMap_cons, eq_self, BEq.rfl, simprocAttr, List.getD_cons_zero, List.getD_cons_succ, or_false, false_or, or_self, or_true, true_or, decide_true]) (by simp only [GA, ↓GB, List.filterMap_cons, eq_self, BEq.rfl, simprocAttr, List.getD_cons_zero, List.getD_cons_succ, or_false, false_or, or_self, or_true, true_or, decide_true])), by show ms.length - (j + 1) < ms.length - j; omega⟩
    · refine ⟨⟨(i, j + 1, l), by show i < j + 1; omega, by show j + 1 ≤ ms.length; omega, hl, lp_skip _ ms l i j (by omega) hft (by assumption), lp_drop' ms l j hdr⟩, [0, 1, 2], (LeR.of (by rw [hbl]; decide) (by simp only [GA, ↓GB, List.filterMap_cons, eq_self, BEq.rfl, simprocAttr, List.getD_cons_zero, List.getD_cons_succ, or_false, false_or, or_self, or_true, true_or, decide_true]; try ((rw [wI64 (by omega) (by omega)]; rfl))) (by simp only [GA, ↓GB, List.filterMap_cons, eq_self, BEq.rfl, simprocAttr, List.getD_cons_zero, List.getD_cons_succ, or_false, false_or, or_self, or_true, true_or, decide_true]; try ((rw [wI64 (by omega) (by omega)]; rfl))) (by decide) (by simp only [GA, ↓GB, List.filterMap_cons, eq_self, BEq.rfl, simprocAttr, List.getD_cons_zero, List.getD_cons_succ, or_false, false_or, or_self, or_true, true_or, decide_true]) (by simp only [GA, ↓GB, List.filterMap_cons, eq_self, BEq.rfl, simprocAttr, List.getD_cons_zero, List.getD_cons_succ, or_false, false_or, or_self, or_true, true_or, decide_true]) (by simp only [GA, ↓GB, List.filterMap_cons, eq_self, BEq.rfl, simprocAttr, List.getD_cons_zero, List.getD_cons_succ, or_false, false_or, or_self, or_true, true_or, decide_true])), by show ms.length - (j + 1) < ms.length - j; omega⟩
    · rw [lp_end (isK b t) ms l i j ys vs _ hl hij (by omega) hft]
      (refine hN0 _ _ ⟨[0, 1, 4], _, _, ?_, ?_, ?_, ⟨rfl, rfl⟩⟩; (focus exact LeR.of rfl trivial (by simp only [GA, ↓GB, List.filterMap_cons, eq_self, BEq.rfl, simprocAttr, List.getD_cons_zero, List.getD_cons_succ, or_false, false_or, or_self, or_true, true_or, decide_true]) (by decide) rfl rfl rfl); rotate_left; (focus rfl))
      rfl
end Go.Proofs.YtbdacbcpniegiaaDoor.Q
