/- Own work: a part of the symbolic executor and of the walks of the functions that the claim reaches. -/
import Derived.Test.YtbdacbcpniegiaaDoorBase5
import Derived.WalkKit
import Derived.ProofKit
import Derived.OpenShut
import Derived.ChangeSame
import Derived.Below
import Derived.ChangeSlices
import Derived.Test.YtbdacbcpniegiaaDoorProg
import Derived.Deep.Slices
import Derived.ChangeArms
namespace Go.Proofs.YtbdacbcpniegiaaDoor
open Go Go.RowKit Go.ChangeShapes Go.WideShapes Go.ChangeAt
theorem post_of_below {H : Type} {enc : TypeId × Value → H} {P : Program} {f : Func} {s : ChangeSpec} {apart fresh handsOn again : Bool} {W W' : World} {args : Array Value} {v : Value} {ds gs : List (DataW H)} {before pa pv : List MemPlace}
    (hW : DataW.Whole enc P f.params.toList s.vars apart W args.toList ds gs before)
    (hres : ∀ (b : Nat) (sp : Nat → Bool) (hd : Bool), DataW.TrodAll enc P W' b sp hd f.resultTypes.toList (v.resultList f.resultTypes.size) (s.fn H (ds ++ gs)).results [])
    (hargs : ∀ sp : Nat → Bool, (∀ p ∈ before, sp p.block = true) → DataW.TrodAll enc P W' 0 sp true f.params.toList args.toList (s.fn H (ds ++ gs)).args pa)
    (hvars : ∀ sp : Nat → Bool, (∀ p ∈ before, sp p.block = true) → DataW.TrodVars enc P W' sp s.vars (s.fn H (ds ++ gs)).vars pv)
    (hps : before = pa ++ pv) (hb : Below W.heap.size W W')
    (hok : ∀ (j : Nat) (t : TypeId) (r : Value), f.resultTypes[j]? = some t → (v.resultList f.resultTypes.size)[j]? = some r → Value.okWide P W' .any 0 t r) :
    s.post enc P f apart fresh handsOn again W args v W' := by
  have hk : W.keptBut W' (· ∈ before) := hb.frame _
  have hold : ∀ p ∈ before, (fun b => decide (b < W.heap.size)) p.block = true := fun p hp => by simpa using hW.lt p hp
  have hlt := hW.lt
  refine ⟨ds, gs, before, [], pa, pv, hW, hres _ _ _, hargs _ hold, hvars _ hold, World.keptBut_mono (fun p hp => ⟨hp, ?_⟩) hk, fun _ => ?_⟩
  · rw [hps, List.mem_append] at hp
    exact Or.inr hp
  · obtain ⟨_, _, _, _, _, hz, hn⟩ := hW
    refine ⟨hok, _, _, ([] ++ pa) ++ pv, ⟨[] ++ pa, pv, trodAll_append (hargs _ (fun _ _ => rfl)) (hres _ _ _), hvars _ (fun _ _ => rfl), rfl, ?_, ?_⟩, ?_⟩
    · intro b off hp
      have hp' : MemPlace.cell b off ∈ before := by rw [hps]; simpa using hp
      rw [hb.frozen (p := ⟨b, off, none⟩) (hlt _ hp')]
      exact hz b off hp'
    · intro ha
      have := hn ha
      rw [hps] at this
      simpa using this
    · intro p hp _
      rw [hps]
      simpa using hp
theorem u8_of {n : Int} (h : (Lit.int .u8 n).wf = true) : 0 ≤ n ∧ n < 256 := by
  simp only [Lit.wf, Bool.and_eq_true, decide_eq_true_eq] at h
  have e1 : IntKind.u8.min = 0 := rfl
  have e2 : IntKind.u8.max = 255 := rfl
  omega
theorem u64_of {n : Int} (h : (Lit.int .u64 n).wf = true) : 0 ≤ n ∧ n < 18446744073709551616 := by
  simp only [Lit.wf, Bool.and_eq_true, decide_eq_true_eq] at h
  have e1 : IntKind.u64.min = 0 := rfl
  have e2 : IntKind.u64.max = 18446744073709551615 := rfl
  omega
theorem i64_of {n : Int} (h : (Lit.int .i64 n).wf = true) : -9223372036854775808 ≤ n ∧ n < 9223372036854775808 := by
  simp only [Lit.wf, Bool.and_eq_true, decide_eq_true_eq] at h
  have e1 : IntKind.i64.min = -9223372036854775808 := rfl
  have e2 : IntKind.i64.max = 9223372036854775807 := rfl
  omega
theorem u8row {H : Type} {enc : TypeId × Value → H} {P : Program} {W : World} {t e : TypeId} {a : Option Addr} {len cap : Nat} {d : DataW H} {p : List MemPlace} (ht : P.underlying t = some (.slice e)) (he : P.underlying e = some (.int .u8)) (hc : P.cellsOf e = 1)
    (h : DataW.Trod enc P W 0 (fun _ => true) true t (.slice a len cap) d p) :
    ∃ xs : List UInt8, len = xs.length ∧ ∀ i, i < xs.length → ∃ ad, a = some ad ∧ W.cell? (ad.add (i * 1)) = some (.int .u8 ((xs.getD i 0).toNat : Nat)) := by
  obtain ⟨fuel, hf⟩ := h
  rcases open_ints ht he hc hf with ⟨hcs, _⟩ | ⟨x, l, c, zs, hcs, _, hl, hm, hz, _, hcell, hwz⟩
  · simp [Value.cells] at hcs
    obtain ⟨rfl, rfl, rfl⟩ := hcs
    exact ⟨[], rfl, fun i hi => by simp at hi⟩
  · simp [Value.cells] at hcs
    obtain ⟨rfl, rfl, rfl⟩ := hcs
    have hz' : zs.length = cap := by simpa using hz
    refine ⟨(zs.take len).map fun z => UInt8.ofNat z.toNat, by simp; omega, fun i hi => ⟨x, rfl, ?_⟩⟩
    have hi' : i < len := by simp at hi; omega
    rw [Nat.mul_one, hcell i (by omega)]
    have hw := u8_of (hwz (zs[i]'(by omega)) (List.getElem_mem _))
    have e1 : zs.getD i 0 = zs[i]'(by omega) := by rw [List.getD_eq_getElem?_getD, List.getElem?_eq_getElem (by omega)]; rfl
    have e2 : ((zs.take len).map fun z => UInt8.ofNat z.toNat).getD i 0 = UInt8.ofNat (zs[i]'(by omega)).toNat := by
      rw [List.getD_eq_getElem?_getD, List.getElem?_map, List.getElem?_take, if_pos hi', List.getElem?_eq_getElem (by omega)]; rfl
    rw [e1, e2]
    simp only [UInt8.toNat_ofNat', Option.some.injEq, Value.int.injEq, true_and]
    omega
end Go.Proofs.YtbdacbcpniegiaaDoor
namespace Go.Proofs.YtbdacbcpniegiaaDoor
open Go Go.RowKit Go.Proofs Go.Sx
set_option linter.unusedSimpArgs false
set_option linter.unusedVariables false
set_option maxRecDepth 100000
def rng (n : Nat) : List Mk := (List.range n).map fun (j : Nat) => ⟨2, [107], ((j + 1 : Nat) : Int), 1, []⟩
def tkn (n m : Nat) : List Mk := (noteL (rng n) 2 [107] m true []).1
def wantE (n e : Nat) : Int := if e = 0 then 1 else if e ≤ n then 6 else 0
theorem rng_ok : ∀ i : Nat, i < 10 → beginL (rng i) 2 [107] ((i + 1 : Nat) : Int) = (rng (i + 1), 0) := by decide +kernel
theorem ers_ok : ∀ n : Nat, n < 11 → ∀ m : Nat, m < n + 1 → ∀ e : Nat, e < 20 → (beginL (tkn n m) 2 [107] (e : Int)).2 = wantE n e ∧ (eraseL (beginL (tkn n m) 2 [107] (e : Int)).1).length = m := by decide +kernel
theorem rng_inv : ∀ i, i ≤ 10 → Inv (rng i)
  | 0, _ => Inv.nil
  | i + 1, h => by
    have := (rng_inv i (by omega)).begin 2 [107] ((i + 1 : Nat) : Int)
    rw [rng_ok i (by omega)] at this
    exact this
theorem star_bad (ms : List Mk) : beginL ms 2 [42] 5 = (ms, 1) := by simp [beginL, badB]
end Go.Proofs.YtbdacbcpniegiaaDoor
namespace Go.Proofs.YtbdacbcpniegiaaDoor
open Go Go.RowKit Go.Proofs Go.Sx
set_option linter.unusedSimpArgs false
set_option linter.unusedVariables false
set_option maxRecDepth 100000
theorem find_of_mem {ms : List Mk} (h : Srt ms) {x : Mk} (hx : x ∈ ms) {t : Int} {s : List UInt8} {q : Int} (hk : x.t = t ∧ x.s = s ∧ x.q = q) : ms.find? (kk t s q) = some x := by
  cases hf : ms.find? (kk t s q) with
  | none =>
    rw [List.find?_eq_none] at hf
    exact absurd (kk_iff.2 hk) (hf x hx)
  | some y =>
    have h1 := kk_iff.1 (List.find?_some hf)
    have := h.uniq (List.mem_of_find?_eq_some hf) hx (by rw [cmpM_eq]; exact ⟨h1.1.trans hk.1.symm, h1.2.1.trans hk.2.1.symm, h1.2.2.trans hk.2.2.symm⟩)
    rw [this]
def lst (n : Nat) (f : Nat → Int × List UInt8) : List Mk := (List.range n).map fun (j : Nat) => ⟨4, [107], ((2 * (j + 1) : Nat) : Int), (f (j + 1)).1, (f (j + 1)).2⟩
theorem lst_len (n : Nat) (f : Nat → Int × List UInt8) : (lst n f).length = n := by simp [lst]
theorem lst_mem {n : Nat} {f : Nat → Int × List UInt8} {x : Mk} : x ∈ lst n f ↔ ∃ j, j < n ∧ x = ⟨4, [107], ((2 * (j + 1) : Nat) : Int), (f (j + 1)).1, (f (j + 1)).2⟩ := by
  simp only [lst, List.mem_map, List.mem_range]
  constructor
  · rintro ⟨j, hj, e⟩; exact ⟨j, hj, e.symm⟩
  · rintro ⟨j, hj, e⟩; exact ⟨j, hj, e.symm⟩
theorem lst_srt (n : Nat) (f : Nat → Int × List UInt8) : Srt (lst n f) := by
  rw [Srt, lst, List.pairwise_map]
  refine List.pairwise_lt_range.imp fun {a b} hab => ?_
  rw [cmpM_lt]
  refine .inr ⟨rfl, .inr ⟨rfl, ?_⟩⟩
  show ((2 * (a + 1) : Nat) : Int) < ((2 * (b + 1) : Nat) : Int)
  omega
theorem lst_inv {n : Nat} (hn : n ≤ 10) (f : Nat → Int × List UInt8) : Inv (lst n f) := ⟨lst_srt n f, by rw [lst_len]; omega⟩
def pend (_ : Nat) : Int × List UInt8 := (1, [])
theorem lst_begin : ∀ i : Nat, i < 10 → beginL (lst i pend) 4 [107] ((2 * (i + 1) : Nat) : Int) = (lst (i + 1) pend, 0) := by decide +kernel
theorem lst_find {n : Nat} (f : Nat → Int × List UInt8) {j : Nat} (h1 : 1 ≤ j) (h2 : j ≤ n) : (lst n f).find? (kk 4 [107] ((2 * j : Nat) : Int)) = some ⟨4, [107], ((2 * j : Nat) : Int), (f j).1, (f j).2⟩ := by
  obtain ⟨i, rfl⟩ : ∃ i, j = i + 1 := ⟨j - 1, by omega⟩
  exact find_of_mem (lst_srt n f) (lst_mem.2 ⟨i, by omega, rfl⟩) ⟨rfl, rfl, rfl⟩
theorem lst_state {n : Nat} (hn : n ≤ 10) (f : Nat → Int × List UInt8) {j : Nat} (h1 : 1 ≤ j) (h2 : j ≤ n) : stateL (lst n f) 4 [107] ((2 * j : Nat) : Int) = f j := by
  rw [stateL_eq (lst_inv hn f), lst_find f h1 h2]
theorem lst_odd {n : Nat} (f : Nat → Int × List UInt8) (j : Nat) : (lst n f).find? (kk 4 [107] ((2 * j + 1 : Nat) : Int)) = none := by
  rw [List.find?_eq_none]
  intro x hx hk
  obtain ⟨i, hi, rfl⟩ := lst_mem.1 hx
  have := (kk_iff.1 hk).2.2
  simp only [] at this
  omega
theorem status4 {q : Int} {ok : Bool} {d : List UInt8} (hq : 0 < q) (hd : d.length ≤ 256) (ho : ok = true → d = []) : statusB 4 [107] q ok d = true := by
  have hk : keyB 4 [107] = true := by decide +kernel
  simp only [statusB, hk, Bool.true_and, Bool.and_eq_true, decide_eq_true_eq, Bool.or_eq_true, Bool.not_eq_true', beq_iff_eq]
  refine ⟨⟨⟨rfl, hq⟩, by omega⟩, ?_⟩
  cases ok with
  | true => exact .inr (ho rfl)
  | false => exact .inl rfl
theorem lst_none {n : Nat} (hn : n ≤ 10) (f : Nat → Int × List UInt8) (j : Nat) : noteL (lst n f) 4 [107] (2 * j + 1) true [] = (lst n f, 5) := by
  rw [noteL_eq (lst_inv hn f), status4 (by omega) (by simp) (fun _ => rfl), lst_odd]
  rfl
def upd (a : Nat) (ok : Bool) (d : List UInt8) (f : Nat → Int × List UInt8) (j : Nat) : Int × List UInt8 :=
  if (f j).1 = 1 then (if ok then (if j ≤ a then (2, (f j).2) else f j) else if j = a then (3, d) else f j) else f j
theorem lst_note {n : Nat} (hn : n ≤ 10) (f : Nat → Int × List UInt8) {a : Nat} (h1 : 1 ≤ a) (h2 : a ≤ n) (ok : Bool) (d : List UInt8) (hd : d.length ≤ 256) (ho : ok = true → d = []) :
    noteL (lst n f) 4 [107] (2 * a) ok d = (lst n (upd a ok d f), 0) := by
  rw [noteL_eq (lst_inv hn f), status4 (by omega) hd ho, lst_find f h1 h2]
  cases ok with
  | true =>
    simp only [Bool.not_true, Bool.false_eq_true, if_false, if_true, Prod.mk.injEq, and_true]
    rw [lst, lst, List.map_map]
    refine List.map_congr_left fun j hj => ?_
    simp only [Function.comp, tkM, isTk, upd, beq_self_eq_true, Bool.true_and, if_true, Bool.and_eq_true, decide_eq_true_eq, beq_iff_eq]
    by_cases e1 : (f (j + 1)).1 = 1
    · by_cases e2 : j + 1 ≤ a
      · have : ((2 * (j + 1) : Nat) : Int) ≤ ((2 * a : Nat) : Int) := by omega
        simp [e1, e2, this] <;> omega
      · have : ¬ ((2 * (j + 1) : Nat) : Int) ≤ ((2 * a : Nat) : Int) := by omega
        simp [e1, e2, this] <;> omega
    · simp [e1]
  | false =>
    simp only [Bool.not_true, Bool.false_eq_true, if_false]
    by_cases e : (f a).1 = 1
    · simp only [e, if_true, Prod.mk.injEq, and_true]
      rw [lst, lst, List.map_map]
      refine List.map_congr_left fun j hj => ?_
      simp only [Function.comp, rfM, kk, upd, beq_self_eq_true, Bool.true_and, Bool.and_eq_true, beq_iff_eq, Bool.false_eq_true, if_false]
      by_cases e2 : j + 1 = a
      · subst e2; simp [e]
      · have : ((2 * (j + 1) : Nat) : Int) ≠ ((2 * a : Nat) : Int) := by omega
        simp only [this, e2, if_false]
        split <;> rfl
    · simp only [e, if_false, Prod.mk.injEq, and_true]
      rw [lst, lst]
      refine List.map_congr_left fun j hj => ?_
      simp only [upd, Bool.false_eq_true, if_false]
      by_cases e2 : j + 1 = a
      · subst e2; simp [e]
      · simp only [e2, if_false, ite_self]
end Go.Proofs.YtbdacbcpniegiaaDoor
namespace Go.Proofs.YtbdacbcpniegiaaDoor
open Go Go.RowKit Go.Proofs Go.Sx
set_option linter.unusedSimpArgs false
set_option linter.unusedVariables false
set_option maxRecDepth 100000
def stt (f : Nat → Int × List UInt8) (j : Nat) : Int := if j = 0 then 0 else if (f j).1 = 1 then 0 else (f j).1
def mix (f f' : Nat → Int × List UInt8) (j k : Nat) : Int := if k < j then stt f' k else stt f k
def cellsS (n : Nat) (g : Nat → Int) : List Value := (List.range (n + 1)).map fun k => Value.int .i64 (g k)
theorem cellsS_len (n : Nat) (g : Nat → Int) : (cellsS n g).length = n + 1 := by simp [cellsS]
theorem cellsS_at {n : Nat} (g : Nat → Int) {j : Nat} (h : j ≤ n) : (cellsS n g)[j * 1]? = some (.int .i64 (g j)) := by
  rw [Nat.mul_one, cellsS, List.getElem?_map, List.getElem?_range (by omega)]; rfl
theorem cellsS_congr {n : Nat} {g h : Nat → Int} (e : ∀ k, k ≤ n → g k = h k) : cellsS n g = cellsS n h := by
  unfold cellsS
  refine List.map_congr_left fun k hk => ?_
  rw [e k (by have := List.mem_range.1 hk; omega)]
theorem cellsS_set {n : Nat} (g h : Nat → Int) {j : Nat} {v : Int} (hj : j ≤ n) (h1 : h j = v) (h2 : ∀ k, k ≠ j → h k = g k) : (cellsS n g).take (j * 1) ++ [Value.int .i64 v] ++ (cellsS n g).drop (j * 1 + 1) = cellsS n h := by
  rw [Nat.mul_one]
  apply List.ext_getElem?
  intro i
  have hl : ((cellsS n g).take j).length = j := by rw [List.length_take, cellsS_len]; omega
  have at' : ∀ (q : Nat → Int) (k : Nat), (cellsS n q)[k]? = if k ≤ n then some (.int .i64 (q k)) else none := fun q k => by
    by_cases hk : k ≤ n
    · have := cellsS_at q hk; rw [Nat.mul_one] at this; rw [this, if_pos hk]
    · rw [if_neg hk, List.getElem?_eq_none (by rw [cellsS_len]; omega)]
  rw [at' h i]
  rcases Nat.lt_trichotomy i j with hi | rfl | hi
  · rw [List.append_assoc, List.getElem?_append_left (by omega), List.getElem?_take_of_lt hi, at' g i, h2 i (by omega)]
  · rw [List.append_assoc, List.getElem?_append_right (by omega), hl, Nat.sub_self, h1, if_pos hj]; rfl
  · rw [List.getElem?_append_right (by simp [hl]; omega), List.getElem?_drop, at' g, List.length_append, hl]
    have e : j + 1 + (i - (j + [Value.int IntKind.i64 v].length)) = i := by simp; omega
    rw [e, h2 i (by omega)]
theorem cellsS_zero (n : Nat) : List.replicate (n + 1) (Value.int .i64 0) = cellsS n (stt pend) := by
  apply List.ext_getElem
  · simp [cellsS]
  · intro i h1 h2
    simp [cellsS, stt, pend]
def Three (f : Nat → Int × List UInt8) : Prop := ∀ j, (f j).1 = 1 ∨ (f j).1 = 2 ∨ (f j).1 = 3
theorem Three.pend : Three pend := fun j => .inl rfl
theorem Three.upd {f : Nat → Int × List UInt8} (h : Three f) (a : Nat) (ok : Bool) (d : List UInt8) : Three (upd a ok d f) := fun j => by
  unfold Go.Proofs.YtbdacbcpniegiaaDoor.upd
  split
  · split
    · split
      · exact .inr (.inl rfl)
      · exact h j
    · split
      · exact .inr (.inr rfl)
      · exact h j
  · exact h j
theorem stay_spec {f : Nat → Int × List UInt8} (h : Three f) (a : Nat) (ok : Bool) (d : List UInt8) {j : Nat} (hj : 1 ≤ j) :
    (stt f j = 0 → ok = true → j ≤ a → (upd a ok d f j).1 = 2) ∧ (stt f j = 0 → ok = true → a < j → (upd a ok d f j).1 = 1) ∧
    (stt f j = 0 → ok = false → j = a → (upd a ok d f j).1 = 3 ∧ (upd a ok d f j).2 = d) ∧ (stt f j = 0 → ok = false → j ≠ a → (upd a ok d f j).1 = 1) ∧
    (stt f j ≠ 0 → (upd a ok d f j).1 = stt f j) ∧ (stt f j ≠ 1) := by
  have hs : stt f j = if (f j).1 = 1 then 0 else (f j).1 := by unfold stt; rw [if_neg (by omega)]
  have h3 := h j
  rw [hs]
  unfold upd
  by_cases e : (f j).1 = 1
  · simp only [e, if_true]
    refine ⟨fun _ ho hja => by rw [if_pos ho, if_pos hja], fun _ ho hja => by rw [if_pos ho, if_neg (by omega)]; exact e, fun _ ho hja => ?_, fun _ ho hja => by rw [ho, if_neg (by decide), if_neg hja]; exact e, fun h0 => absurd rfl h0, by decide⟩
    rw [ho, if_neg (by decide), if_pos hja]; exact ⟨rfl, rfl⟩
  · simp only [e, if_false]
    refine ⟨fun h0 => by omega, fun h0 => by omega, fun h0 => by omega, fun h0 => by omega, fun _ => trivial, e⟩
theorem stt_upd {f : Nat → Int × List UInt8} {a : Nat} {ok : Bool} {d : List UInt8} {j : Nat} (hj : 1 ≤ j) : stt (upd a ok d f) j = if (upd a ok d f j).1 = 1 then 0 else (upd a ok d f j).1 := by
  unfold stt; rw [if_neg (by omega)]
end Go.Proofs.YtbdacbcpniegiaaDoor
namespace Go.Sx
open Go Go.RowKit
set_option linter.unusedVariables false
set_option linter.unusedSimpArgs false
def sub : List Bool → Code → Code
  | [], c => c
  | false :: p, .seq a _ => sub p a
  | true :: p, .seq _ b => sub p b
  | _ :: p, .block _ a => sub p a
  | _ :: p, .loop a => sub p a
  | false :: p, .cond _ a _ => sub p a
  | true :: p, .cond _ _ b => sub p b
  | _ :: _, c => c
section
variable {X : Ctx} {c : Cfg} {N : Cfg → Prop} {d : Option Tmp} {ty : TypeId} {pos : String} {af : Array Edge} {g : Option (Nat × Bool)}
theorem PO.slString {src dst e t n : Nat} {x : Operand} {j : Nat} {l : List SC} (bs : List UInt8) (hx : c.ev x = .one (.c (.sl j 0 n n))) (hj : c.loc[j]? = some (.cells l t)) (hl : l = (bcells bs).map SC.v) (hn : n = bs.length)
    (hs : X.P.underlying src = some (.slice e)) (he : X.P.underlying e = some (.int .u8)) (hd : X.P.underlying dst = some .string) :
    PO X ⟨d, .convert src dst x, ty, pos, af, g⟩ c (vv (.string (B bs))) := fun ρ σ a w hr => by
  subst hl
  have ex := hr.ev x
  rw [hx] at ex
  obtain ⟨b, hb, ex⟩ := ex
  obtain ⟨hw, -⟩ := hr.plainAt hj hb
  refine ⟨_, ?_, rfl⟩
  simp only [execOp, ex, Sem.run_bind, hn]
  rw [run_convert_bytes_back w src dst e ⟨b, 0, none⟩ _ bs hs he hd (fun i hi => by
    by_cases e0 : i = 0
    · subst e0
      simp only [World.cell?, Addr.add, hw]
      simp [bcells, hi, hw]
    · simp only [World.cell?, Addr.add, if_neg e0, hw]
      simp [bcells, hi, hw])]
  rfl
theorem VO.slString {src dst e t n : Nat} {x : Operand} {j : Nat} {l : List SC} (bs : List UInt8) (hx : c.ev x = .one (.c (.sl j 0 n n))) (hj : c.loc[j]? = some (.cells l t)) (hl : l = (bcells bs).map SC.v) (hn : n = bs.length)
    (hs : X.P.underlying src = some (.slice e)) (he : X.P.underlying e = some (.int .u8)) (hd : X.P.underlying dst = some .string) (h : nxt X d N c (vv (.string (B bs)))) :
    VO X ⟨d, .convert src dst x, ty, pos, af, g⟩ c N := .of_po (PO.slString bs hx hj hl hn hs he hd) h
theorem VO.makeRow {t e : TypeId} {x y : Operand} {kl kc : IntKind} {n : Nat} {by_ : Nat} {z : Value} (hx : c.ev x = vv (.int kl (n : Int))) (hy : c.ev y = vv (.int kc (n : Int))) (ht : elemInf X.P t = some (e, 1, by_, z)) (h1 : n ≤ 1048576) (h2 : by_ ≤ 1048576) (hzc : z.cells = #[z])
    (h : nxt X d N { c with loc := c.loc ++ [.row e 1 n (List.replicate n z)] } (.one (.c (.row c.loc.length)))) : VO X ⟨d, .makeSlice t x y, ty, pos, af, g⟩ c N :=
  .of_value fun ρ σ a w hr => by
    obtain ⟨hu, ti, hti, hz, hsz, rfl, hzs, h0⟩ := elemInf_spec ht
    have e1 := hr.ev x
    rw [hx] at e1
    have e1 : a.eval x = .int kl (n : Int) := e1
    have e2 := hr.ev y
    rw [hy] at e2
    have e2 : a.eval y = .int kc (n : Int) := e2
    have hb : ti.bytes * n ≤ 1048576 * 1048576 := Nat.mul_le_mul h2 h1
    have hb' : (ti.bytes : Int) * (n : Int) ≤ 281474976710656 := by
      have : ((ti.bytes * n : Nat) : Int) ≤ 281474976710656 := by omega
      rwa [Int.natCast_mul] at this
    have hrun := run_make (P := X.P) w t e ti z hu hti hz kl kc n n (by omega) (Int.le_refl _) hb' (by omega)
    have hcur : (madeCells z.cells (n * ti.size)).toList = List.replicate n z := by
      rw [hzc, hsz, Nat.mul_one]
      apply List.ext_getElem
      · simp [madeCells]
      · intro i h1 h2
        simp [madeCells, Nat.mod_one]
    rw [show ((n : Int)).toNat = n from rfl] at hrun
    have ho : (w.alloc (.cells (madeCells z.cells (n * ti.size)) e)).ownsRow w.heap.size e 1 (.slice (some ⟨w.heap.size, 0, none⟩) n n) n (List.replicate n z) :=
      ⟨by simp, .inr ⟨w.heap.size, n, _, rfl, Nat.le_refl _, (MapKept.heap_alloc w _).1, Nat.le_refl _, by simp only [maxLen]; omega, by rw [size_madeCells, hsz], by rw [hcur, Nat.mul_one, List.take_of_length_le (by simp)]⟩⟩
    obtain ⟨ρ', hR⟩ := hr.newRow ((Below.refl w.heap.size w).alloc (Nat.le_refl _) _) ho
    refine ⟨.slice (some ⟨w.heap.size, 0, none⟩) n n, _, _, _, _, .one (.c (.row c.loc.length)), ?_, hR, ?_, h.1, h.2⟩
    · simp only [execOp, e1, e2, Sem.run_bind, hrun, Result.andThen, Sem.run_pure]
    · show (σ ++ [_])[c.loc.length]? = _
      rw [← hr.lenS]; simp
end
end Go.Sx
namespace Go.Proofs.YtbdacbcpniegiaaDoor
open Go Go.RowKit Go.ChangeShapes Go.WideShapes Go.ChangeAt Go.Sx
structure Dd where
  kd : Nat
  nm : Nat
  t : Int
  ks : List UInt8
  q : Nat
  ok : Bool
  s : List UInt8
deriving Inhabited
def Dd.cells (d : Dd) : List Value := [.int .u8 (d.kd : Int), .int .u8 (d.nm : Int), .int .i64 d.t, .string (B d.ks), .int .u64 (d.q : Int), .bool d.ok, .string (B d.s)]
structure Dd.Ok (d : Dd) : Prop where
  kd : d.kd < 256
  nm : d.nm < 256
  t0 : -9223372036854775808 ≤ d.t
  t1 : d.t < 9223372036854775808
  ks : d.ks.length ≤ 9223372036854775807
  q : d.q < 18446744073709551616
  s : d.s.length ≤ 9223372036854775807
theorem at1 {cs : List Value} {o : Nat} {v : Value} (h : (cs.drop o).take 1 = [v]) : cs[o]? = some v := by
  have := congrArg (·[0]?) h
  simpa using this
theorem B_data (s : ByteArray) : B s.data.toList = s := by cases s; simp [B]
theorem deed_cells {H : Type} {enc : TypeId × Value → H} {W : World} {sp : Nat → Bool} {held : Bool} {n base : Nat} {cs : List Value} {x : DataW H × List MemPlace}
    (h : DataW.trod enc Tryd.prog W base sp held n 53 cs = some x) : ∃ d : Dd, d.Ok ∧ cs = d.cells := by
  obtain ⟨ys, m, rfl, _, hl, hys, hf⟩ := DataW.trod_struct Tryd.underlying53 h
  have c53 : Tryd.prog.cellsOf 53 = 7 := by kernel_rfl
  have c5 : Tryd.prog.cellsOf 5 = 1 := by kernel_rfl
  have c26 : Tryd.prog.cellsOf 26 = 2 := by kernel_rfl
  have c3 : Tryd.prog.cellsOf 3 = 1 := by kernel_rfl
  have c9 : Tryd.prog.cellsOf 9 = 1 := by kernel_rfl
  have c22 : Tryd.prog.cellsOf 22 = 1 := by kernel_rfl
  have c4 : Tryd.prog.cellsOf 4 = 1 := by kernel_rfl
  rw [c53] at hl
  have g0 : DataW.trod enc Tryd.prog W base sp held m 5 ((cs.drop 0).take (Tryd.prog.cellsOf 5)) = ys[0]? := hf 0 _ rfl
  have g1 : DataW.trod enc Tryd.prog W base sp held m 5 ((cs.drop 1).take (Tryd.prog.cellsOf 5)) = ys[1]? := hf 1 _ rfl
  have g2 : DataW.trod enc Tryd.prog W base sp held m 26 ((cs.drop 2).take (Tryd.prog.cellsOf 26)) = ys[2]? := hf 2 _ rfl
  have g3 : DataW.trod enc Tryd.prog W base sp held m 22 ((cs.drop 4).take (Tryd.prog.cellsOf 22)) = ys[3]? := hf 3 _ rfl
  have g4 : DataW.trod enc Tryd.prog W base sp held m 4 ((cs.drop 5).take (Tryd.prog.cellsOf 4)) = ys[4]? := hf 4 _ rfl
  have g5 : DataW.trod enc Tryd.prog W base sp held m 9 ((cs.drop 6).take (Tryd.prog.cellsOf 9)) = ys[5]? := hf 5 _ rfl
  have hy6 : ys.length = 6 := hys
  rw [c5, List.getElem?_eq_getElem (by omega)] at g0
  rw [c5, List.getElem?_eq_getElem (by omega)] at g1
  rw [c26, List.getElem?_eq_getElem (by omega)] at g2
  rw [c22, List.getElem?_eq_getElem (by omega)] at g3
  rw [c4, List.getElem?_eq_getElem (by omega)] at g4
  rw [c9, List.getElem?_eq_getElem (by omega)] at g5
  obtain ⟨a0, e0, _, w0⟩ := DataW.trod_int Tryd.underlying5 g0
  obtain ⟨a1, e1, _, w1⟩ := DataW.trod_int Tryd.underlying5 g1
  obtain ⟨zs, m2, rfl, _, hl2, hzs, hf2⟩ := DataW.trod_struct Tryd.underlying26 g2
  have k0 : DataW.trod enc Tryd.prog W base sp held m2 3 ((((cs.drop 2).take 2).drop 0).take (Tryd.prog.cellsOf 3)) = zs[0]? := hf2 0 _ rfl
  have k1 : DataW.trod enc Tryd.prog W base sp held m2 9 ((((cs.drop 2).take 2).drop 1).take (Tryd.prog.cellsOf 9)) = zs[1]? := hf2 1 _ rfl
  have hz2 : zs.length = 2 := hzs
  rw [c3, List.getElem?_eq_getElem (by omega)] at k0
  rw [c9, List.getElem?_eq_getElem (by omega)] at k1
  obtain ⟨a2, e2, _, w2⟩ := DataW.trod_int Tryd.underlying3 k0
  obtain ⟨a3, e3, _, w3⟩ := DataW.trod_string Tryd.underlying9 k1
  obtain ⟨a4, e4, _, w4⟩ := DataW.trod_int Tryd.underlying22 g3
  obtain ⟨a5, e5, _⟩ := DataW.trod_bool Tryd.underlying4 g4
  obtain ⟨a6, e6, _, w6⟩ := DataW.trod_string Tryd.underlying9 g5
  have f0 := at1 e0
  have f1 := at1 e1
  have f2 := at1 e2
  have f3 := at1 e3
  have f4 := at1 e4
  have f5 := at1 e5
  have f6 := at1 e6
  rw [List.getElem?_take_of_lt (by decide), List.getElem?_drop] at f2 f3
  have b0 := u8_of w0
  have b1 := u8_of w1
  have b2 := i64_of w2
  have b4 := u64_of w4
  refine ⟨⟨a0.toNat, a1.toNat, a2, a3.data.toList, a4.toNat, a5, a6.data.toList⟩, ⟨by show a0.toNat < 256; omega, by show a1.toNat < 256; omega, b2.1, b2.2, by simpa [maxLen] using w3, by show a4.toNat < 18446744073709551616; omega, by simpa [maxLen] using w6⟩, ?_⟩
  have r0 : ((a0.toNat : Nat) : Int) = a0 := by omega
  have r1 : ((a1.toNat : Nat) : Int) = a1 := by omega
  have r4 : ((a4.toNat : Nat) : Int) = a4 := by omega
  simp only [Dd.cells, r0, r1, r4, B_data]
  apply List.ext_getElem?
  intro i
  rcases (by omega : i = 0 ∨ i = 1 ∨ i = 2 ∨ i = 3 ∨ i = 4 ∨ i = 5 ∨ i = 6 ∨ 7 ≤ i) with rfl | rfl | rfl | rfl | rfl | rfl | rfl | h7
  · exact f0
  · exact f1
  · exact f2
  · exact f3
  · exact f4
  · exact f5
  · exact f6
  · rw [List.getElem?_eq_none (by omega), List.getElem?_eq_none (by simpa using h7)]
theorem deedRow {H : Type} {enc : TypeId × Value → H} {W : World} {a : Option Addr} {len cap : Nat} {d : DataW H} {p : List MemPlace} (h : DataW.Trod enc Tryd.prog W 0 (fun _ => true) true 46 (.slice a len cap) d p) :
    ∃ xs : List Dd, len = xs.length ∧ (∀ x ∈ xs, x.Ok) ∧ ∀ i, i < xs.length → ∃ ad, a = some ad ∧ ∀ j v, (xs.getD i default).cells[j]? = some v → W.cell? (ad.add (i * 7 + j)) = some v := by
  obtain ⟨fuel, hf⟩ := h
  have c53 : Tryd.prog.cellsOf 53 = 7 := by kernel_rfl
  rcases Go.Deep.open_slice Tryd.underlying46 hf with ⟨hcs, _⟩ | ⟨x, l, c, m, n, D, Pl, hcs, _, hl, hm, em, _, hel⟩
  · simp [Value.cells] at hcs
    obtain ⟨rfl, rfl, rfl⟩ := hcs
    exact ⟨[], rfl, fun x hx => (by cases hx), fun i hi => by simp at hi⟩
  · simp [Value.cells] at hcs
    obtain ⟨rfl, rfl, rfl⟩ := hcs
    have em' : m = cap := by simpa using em
    subst em'
    have hel2 : ∀ i, i < len → ∃ dd : Dd, dd.Ok ∧ ∀ j v, dd.cells[j]? = some v → W.cell? (x.add (i * 7 + j)) = some v := fun i hi => by
      obtain ⟨cs', h1, h2⟩ := hel i (by omega)
      obtain ⟨dd, hd, rfl⟩ := deed_cells h2
      refine ⟨dd, hd, fun j v hj => ?_⟩
      rw [c53] at h1
      unfold World.cells? at h1
      rw [if_pos (Nat.zero_le _)] at h1
      have hlt : j < 7 := by
        have := (List.getElem?_eq_some_iff.1 hj).1
        simpa [Dd.cells] using this
      have := mapM_some_get h1 j j (List.getElem?_range hlt)
      rw [hj, Deep.add_add] at this
      exact this
    obtain ⟨f, hf⟩ := Classical.axiomOfChoice (fun i : { i : Nat // i < len } => hel2 i.1 i.2)
    refine ⟨(List.range len).map fun i => if h : i < len then f ⟨i, h⟩ else default, by simp, fun y hy => ?_, fun i hi => ⟨x, rfl, fun j v hj => ?_⟩⟩
    · obtain ⟨i, hi, rfl⟩ := List.mem_map.1 hy
      have hi' : i < len := List.mem_range.1 hi
      rw [dif_pos hi']
      exact (hf ⟨i, hi'⟩).1
    · have hi' : i < len := by simpa using hi
      have e : ((List.range len).map fun i => if h : i < len then f ⟨i, h⟩ else default).getD i default = f ⟨i, hi'⟩ := by
        rw [List.getD_eq_getElem?_getD, List.getElem?_map, List.getElem?_range hi']
        simp [hi']
      rw [e] at hj
      exact (hf ⟨i, hi'⟩).2 j v hj
theorem ldRowD {X : Ctx} {w : World} {ad : Addr} {v : Value} {N : Value → Prop} (hown : X.own = []) (hwi : X.wi = w) (hc : w.cell? ad = some v) (h : N v) : ad.block ∉ X.own ∧ ∃ v, X.wi.cell? ad = some v ∧ N v :=
  ⟨by rw [hown]; simp, v, by rw [hwi]; exact hc, h⟩
end Go.Proofs.YtbdacbcpniegiaaDoor
