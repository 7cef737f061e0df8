/- Own work: a part of the symbolic executor and of the walks of the functions that the claim reaches. -/
import Derived.Test.YtbdacbcpniegiaaDoorBase5
import Derived.WalkKit
import Derived.ProofKit
import Derived.OpenShut
import Derived.ChangeSame
import Derived.Below
import Derived.ChangeSlices
import Derived.Test.YtbdacbcpniegiaaDoorProg
import Derived.Deep.Slices
import Derived.ChangeArms
import Derived.Test.YtbdacbcpniegiaaDoorRows
import Derived.LaidLaws
namespace Go.Proofs.YtbdacbcpniegiaaDoor
open Go Go.RowKit Go.ChangeShapes Go.WideShapes Go.ChangeAt
theorem post_of_below {H : Type} {enc : TypeId × Value → H} {P : Program} {f : Func} {s : ChangeSpec} {apart fresh handsOn again : Bool} {W W' : World} {args : Array Value} {v : Value} {ds gs : List (DataW H)} {before pa pv : List MemPlace}
    (hW : DataW.Whole enc P f.params.toList s.vars apart W args.toList ds gs before)
    (hres : ∀ (b : Nat) (sp : Nat → Bool) (hd : Bool), DataW.TrodAll enc P W' b sp hd f.resultTypes.toList (v.resultList f.resultTypes.size) (s.fn H (ds ++ gs)).results [])
    (hargs : ∀ sp : Nat → Bool, (∀ p ∈ before, sp p.block = true) → DataW.TrodAll enc P W' 0 sp true f.params.toList args.toList (s.fn H (ds ++ gs)).args pa)
    (hvars : ∀ sp : Nat → Bool, (∀ p ∈ before, sp p.block = true) → DataW.TrodVars enc P W' sp s.vars (s.fn H (ds ++ gs)).vars pv)
    (hps : before = pa ++ pv) (hb : Below W.heap.size W W')
    (hok : ∀ (j : Nat) (t : TypeId) (r : Value), f.resultTypes[j]? = some t → (v.resultList f.resultTypes.size)[j]? = some r → Value.okWide P W' .any 0 t r) :
    s.post enc P f apart fresh handsOn again W args v W' := by
  have hk : W.keptBut W' (· ∈ before) := hb.frame _
  have hold : ∀ p ∈ before, (fun b => decide (b < W.heap.size)) p.block = true := fun p hp => by simpa using hW.lt p hp
  have hlt := hW.lt
  refine ⟨ds, gs, before, [], pa, pv, hW, hres _ _ _, hargs _ hold, hvars _ hold, World.keptBut_mono (fun p hp => ⟨hp, ?_⟩) hk, fun _ => ?_⟩
  · rw [hps, List.mem_append] at hp
    exact Or.inr hp
  · obtain ⟨_, _, _, _, _, hz, hn⟩ := hW
    refine ⟨hok, _, _, ([] ++ pa) ++ pv, ⟨[] ++ pa, pv, trodAll_append (hargs _ (fun _ _ => rfl)) (hres _ _ _), hvars _ (fun _ _ => rfl), rfl, ?_, ?_⟩, ?_⟩
    · intro b off hp
      have hp' : MemPlace.cell b off ∈ before := by rw [hps]; simpa using hp
      rw [hb.frozen (p := ⟨b, off, none⟩) (hlt _ hp')]
      exact hz b off hp'
    · intro ha
      have := hn ha
      rw [hps] at this
      simpa using this
    · intro p hp _
      rw [hps]
      simpa using hp
theorem u8_of {n : Int} (h : (Lit.int .u8 n).wf = true) : 0 ≤ n ∧ n < 256 := by
  simp only [Lit.wf, Bool.and_eq_true, decide_eq_true_eq] at h
  have e1 : IntKind.u8.min = 0 := rfl
  have e2 : IntKind.u8.max = 255 := rfl
  omega
theorem u64_of {n : Int} (h : (Lit.int .u64 n).wf = true) : 0 ≤ n ∧ n < 18446744073709551616 := by
  simp only [Lit.wf, Bool.and_eq_true, decide_eq_true_eq] at h
  have e1 : IntKind.u64.min = 0 := rfl
  have e2 : IntKind.u64.max = 18446744073709551615 := rfl
  omega
end Go.Proofs.YtbdacbcpniegiaaDoor
namespace Go.Proofs.YtbdacbcpniegiaaDoor
open Go Go.RowKit Go.ChangeShapes Go.WideShapes Go.ChangeAt Go.Sx
structure Dd where
  kd : Nat
  nm : Nat
  t : Int
  ks : List UInt8
  q : Nat
  ok : Bool
  s : List UInt8
deriving Inhabited
def Dd.cells (d : Dd) : List Value := [.int .u8 (d.kd : Int), .int .u8 (d.nm : Int), .int .i64 d.t, .string (B d.ks), .int .u64 (d.q : Int), .bool d.ok, .string (B d.s)]
structure Dd.Ok (d : Dd) : Prop where
  kd : d.kd < 256
  nm : d.nm < 256
  t0 : -9223372036854775808 ≤ d.t
  t1 : d.t < 9223372036854775808
  ks : d.ks.length ≤ 9223372036854775807
  q : d.q < 18446744073709551616
  s : d.s.length ≤ 9223372036854775807
end Go.Proofs.YtbdacbcpniegiaaDoor
namespace Go.Proofs.YtbdacbcpniegiaaDoor
open Go Go.RowKit Go.Proofs Go.Sx
set_option maxHeartbeats 16000000
set_option maxRecDepth 100000
set_option linter.unusedSimpArgs false
set_option linter.unusedVariables false
end Go.Proofs.YtbdacbcpniegiaaDoor
namespace Go.Proofs.YtbdacbcpniegiaaDoor
open Go Go.RowKit Go.Proofs Go.Sx
set_option maxHeartbeats 16000000
set_option maxRecDepth 100000
set_option linter.unusedSimpArgs false
set_option linter.unusedVariables false
theorem nameL_right : ∀ n : Fin 256, ¬ n.val % 16 = 15 → nameB (nameL n.val) = true := by decide +kernel
theorem nameL_star : ∀ n : Fin 256, (nameL n.val == [42]) = decide (n.val % 16 = 15) := by decide +kernel
theorem nameL_len : ∀ n : Fin 256, (nameL n.val).length ≤ 4 := by decide +kernel
theorem keyB_name {n : Nat} (hn : n < 256) : keyB ((1 + n % 5 : Nat) : Int) (nameL n) = true := by
  have h1 : (1 : Int) ≤ ((1 + n % 5 : Nat) : Int) := by omega
  have h2 : ((1 + n % 5 : Nat) : Int) ≤ 5 := by omega
  have h3 := nameL_star ⟨n, hn⟩
  simp only at h3
  by_cases h : n % 16 = 15
  · rw [keyB, h3]; simp only [h1, h2, h, decide_true, Bool.true_and, Bool.true_or]
  · have h4 := nameL_right ⟨n, hn⟩ h
    simp only at h4
    rw [keyB, h4]; simp only [h1, h2, decide_true, Bool.true_and, Bool.or_true]
theorem want_name {n : Nat} (hn : n < 256) (q : Nat) (ok : Bool) (d : List UInt8) (hd : d.length ≤ 100) :
    statusB ((1 + n % 5 : Nat) : Int) (nameL n) q ok d = (!(nameL n == [42]) && decide (0 < (q : Int)) && (!ok || d == [])) := by
  have h : (d.length : Int) ≤ 256 := by omega
  simp only [statusB, keyB_name hn, Bool.true_and, h, decide_true, Bool.and_true]
def sFlds (t : Nat) (s : List UInt8) (q : Nat) (ok : Bool) (d : List UInt8) : List NW.Fld :=
  [⟨1, 0, t, []⟩, ⟨2, 2, 0, s⟩, ⟨3, 0, q, []⟩] ++ (if ok then [⟨4, 0, 1, []⟩] else []) ++ (if d = [] then [] else [⟨5, 2, 0, d⟩])
theorem statusBytes_encs (t : Nat) (s : List UInt8) (q : Nat) (ok : Bool) (d : List UInt8) : statusBytes t s q ok d = 4 :: NW.encs (sFlds t s q ok d) := by
  unfold statusBytes sFlds
  cases ok <;> by_cases h : d = [] <;> simp [h, NW.encs, NW.Fld.enc, numB, textB]
theorem sFlds_ok {t : Nat} {s : List UInt8} {q : Nat} {ok : Bool} {d : List UInt8} (ht : t < 18446744073709551616) (hs : s.length ≤ 1099511627776) (hq : q < 18446744073709551616) (hd : d.length ≤ 1099511627776) : ∀ f ∈ sFlds t s q ok d, f.Ok := by
  have a1 : (⟨1, 0, t, []⟩ : NW.Fld).Ok := ⟨by show 1 ≤ 1; decide, by show 1 < _; decide, .inl ⟨rfl, rfl, ht⟩⟩
  have a2 : (⟨2, 2, 0, s⟩ : NW.Fld).Ok := ⟨by show 1 ≤ 2; decide, by show 2 < _; decide, .inr (.inr (.inl ⟨rfl, by show s.length < _; omega, rfl⟩))⟩
  have a3 : (⟨3, 0, q, []⟩ : NW.Fld).Ok := ⟨by show 1 ≤ 3; decide, by show 3 < _; decide, .inl ⟨rfl, rfl, hq⟩⟩
  have a4 : (⟨4, 0, 1, []⟩ : NW.Fld).Ok := ⟨by show 1 ≤ 4; decide, by show 4 < _; decide, .inl ⟨rfl, rfl, by show 1 < _; decide⟩⟩
  have a5 : (⟨5, 2, 0, d⟩ : NW.Fld).Ok := ⟨by show 1 ≤ 5; decide, by show 5 < _; decide, .inr (.inr (.inl ⟨rfl, by show d.length < _; omega, rfl⟩))⟩
  unfold sFlds
  intro f hf
  cases ok <;> by_cases h : d = [] <;> simp [h] at hf <;> rcases hf with rfl | rfl | rfl | rfl | rfl <;> assumption
theorem statR_back {t : Nat} {s : List UInt8} {q : Nat} {ok : Bool} {d : List UInt8} (ht : t ≤ 5) (hs : s.length ≤ 1099511627776) (hq : q < 18446744073709551616) (hd : d.length ≤ 1099511627776) (h : statusB (t : Int) s q ok d = true) :
    statR (statusBytes t s q ok d) = some ⟨t, s, q, if ok then 1 else 0, d⟩ := by
  have hk : kindL (4 :: NW.encs (sFlds t s q ok d)) = 4 := rfl
  have hp : takeB stepS ((4 :: NW.encs (sFlds t s q ok d)).drop 1) ⟨0, [], 0, 0, []⟩ = (⟨t, s, q, if ok then 1 else 0, d⟩, true) := by
    rw [List.drop_succ_cons, List.drop_zero, takeB, NW.parse_encs' _ (sFlds_ok (by omega) hs hq hd)]
    unfold sFlds
    cases ok <;> by_cases h : d = [] <;> simp [h, takeG, stepS]
  have hm : ((min t 6 : Nat) : Int) = (t : Int) := by omega
  have hf : (((if ok then 1 else 0 : Nat) : Int) == 1) = ok := by cases ok <;> rfl
  rw [statusBytes_encs, statR, if_pos hk, hp]
  simp only [hm, hf, h]
  rw [if_pos]
  cases ok <;> simp
end Go.Proofs.YtbdacbcpniegiaaDoor
namespace Go.Proofs.YtbdacbcpniegiaaDoor
open Go Go.RowKit Go.Proofs Go.Sx
set_option maxHeartbeats 16000000
set_option maxRecDepth 100000
set_option linter.unusedSimpArgs false
set_option linter.unusedVariables false
theorem cut100 (d : List UInt8) : (if (100 : Int) < (d.length : Int) then (100 : Int) else (d.length : Int)) = ((min d.length 100 : Nat) : Int) := by split <;> omega
theorem status_yes {e : EA} (he : e.Ok) (n q : Nat) (hn : n < 256) (hq : q < 18446744073709551616) (ok : Bool) (d : List UInt8) (hl : d.length ≤ 9223372036854775807) (h1 : (nameL n == [42]) = false) (h2 : 0 < q) (h3 : (!ok || d.take 100 == []) = true) :
    Ctr Tryd.prog (GE e) 3 [] [vv (.int .u8 n), vv (.int .u64 q), vv (.bool ok), vv (.string (B d))] (fun os v => os = [] ∧ v = vv (.bool true)) := by
  have hex := ex05_ctr he
  have hdl : (d.take 100).length ≤ 100 := by rw [List.length_take]; omega
  have hw := want_name hn q ok (d.take 100) hdl
  rw [h1, h3, decide_eq_true (show (0 : Int) < (q : Int) by omega)] at hw
  have hnl := nameL_len ⟨n, hn⟩
  simp only at hnl
  have hnm := name_ctr n hn
  have hp := putStatus_any ((1 + n % 5 : Nat) : Int) (nameL n) q ok (d.take 100) (by omega) hq
  simp only [hw, Bool.not_false, Bool.true_and, if_true, Int.toNat_natCast] at hp
  have hr := statR_back (t := 1 + n % 5) (s := nameL n) (q := q) (ok := ok) (d := d.take 100) (by omega) (by omega) hq (by omega) (by rw [hw]; rfl)
  have hbl : (statusBytes (1 + n % 5) (nameL n) q ok (d.take 100)).length ≤ 1099511627776 := by
    have e1 := numB_len 1 (1 + n % 5) (by decide) (by omega)
    have e2 := numB_len 3 q (by decide) hq
    have e3 := numB_len 4 1 (by decide) (by decide)
    have e4 := NW.varint_len10 (n := 2 * 8 + 2) (by omega)
    have e5 := NW.varint_len10 (n := (nameL n).length) (by omega)
    have e6 := NW.varint_len10 (n := 5 * 8 + 2) (by omega)
    have e7 := NW.varint_len10 (n := (d.take 100).length) (by omega)
    unfold statusBytes textB
    split <;> split <;> simp only [List.length_append, List.length_cons, List.length_nil] <;> omega
  have hg := getStatus_ctr he _ hbl
  rw [hr] at hg
  simp only [statV] at hg
  have hm : ((min (1 + n % 5) 6 : Nat) : Int) = ((1 + n % 5 : Nat) : Int) := by omega
  have hf : (((if ok then 1 else 0 : Nat) : Int) == 1) = ok := by cases ok <;> rfl
  rw [hm, hf] at hg
  have hk : IntKind.i64.wrap (1 + IntKind.i64.wrap ((n : Int).tmod 5)) = ((1 + n % 5 : Nat) : Int) := by
    rw [Int.tmod_eq_emod_of_nonneg (by omega), wI64 (x := (n : Int) % 5) (by omega) (by omega), wI64 (by omega) (by omega)]; omega
  have hcut := cut100 d
  have htk : List.take (min d.length 100 - 0) d = d.take 100 := by
    rw [Nat.sub_zero]
    rcases Nat.le_total d.length 100 with h | h
    · rw [Nat.min_eq_left h, List.take_length, List.take_of_length_le h]
    · rw [Nat.min_eq_right h]
  have h1' : (nameL n != [42]) = true := by simp only [bne, h1, Bool.not_false]
  have h2' : decide ((0 : Int) < (q : Int)) = true := decide_eq_true (by omega)
  have hle : min d.length 100 ≤ d.length := Nat.min_le_left _ _
  have bq : ((q : Int) == (q : Int)) = true := by simp
  have bt : (((1 + n % 5 : Nat) : Int) == ((1 + n % 5 : Nat) : Int)) = true := by simp
  have hS : ∀ P : Program, P = Tryd.prog → ∀ (t : Int) (s dd : List UInt8) (q : Int) (ok : Bool), StrEq P 30 #[.int .i64 t, .string (B s), .int .u64 q, .bool ok, .string (B dd)] #[.int .i64 t, .string (B s), .int .u64 q, .bool ok, .string (B dd)] true := fun P hP t s dd q ok => by
    subst hP
    have h := Ty.eqS30 t t s s q q ok ok dd dd
    simpa only [beq_self_eq_true, Bool.and_true] using h
  clear hr hw hbl
  generalize statusBytes (1 + n % 5) (nameL n) q ok (d.take 100) = sb at *
  generalize hs : nameL n = s at *
  generalize hdd : d.take 100 = dd at *
  generalize 1 + n % 5 = t at *
  refine Ctr.less ?_
  cases ok with
  | false =>
    intro X0 hP0 hG0 N0 hN0
    refine CallVC.inline (f := 3) (by rw [hP0]; exact Tryd.func3) rfl Tryd.ntmps3 rfl (by simp) ?_
    intro X K hU hnt hbl hK
    have hP : X.P = Tryd.prog := by rw [hU.P, hP0]
    have hG := hG0.under hU
    have hT : calleeOk X.P 17 = true ∧ X.P.underlying 9 = some TypeDesc.string ∧ isStrT X.P 9 = true ∧ X.P.underlying 5 = some (TypeDesc.int IntKind.u8) ∧ X.P.underlying 3 = some (TypeDesc.int IntKind.i64) ∧ isBytesT X.P 5 = false ∧ isStrT X.P 3 = false ∧ calleeOk X.P 18 = true ∧ fieldsOf X.P 26 = some [(0, 1), (1, 1)] ∧ zeroCells X.P 26 = some [(Value.int IntKind.i64 0), (Value.string { data := #[] })] ∧ szOf X.P 26 = some 2 ∧ aggOf X.P 26 = some true ∧ fieldsOf X.P 30 = some [(0, 2), (2, 1), (3, 1), (4, 1)] ∧ zeroCells X.P 30 = some [(Value.int IntKind.i64 0), (Value.string { data := #[] }), (Value.int IntKind.u64 0), (Value.bool false), (Value.string { data := #[] })] ∧ calleeOk X.P 19 = true ∧ calleeOk X.P 20 = true ∧ szOf X.P 30 = some 5 ∧ fieldOff X.P 26 1 = some 1 ∧ aggOf X.P 9 = some false ∧ szOf X.P 9 = some 1 ∧ X.P.underlying 4 = some TypeDesc.bool ∧ aggOf X.P 30 = some true := by rw [hP]; exact ⟨Ty.co17, Tryd.underlying9, Ty.is9, Tryd.underlying5, Tryd.underlying3, Ty.ib5, Ty.is3, Ty.co18, Ty.fs26, Ty.ze26, Ty.sz26, Ty.ag26, Ty.fs30, Ty.ze30, Ty.co19, Ty.co20, Ty.sz30, Ty.fo26_1, Ty.ag9, Ty.sz9, Tryd.underlying4, Ty.ag30⟩
    simp only [GA, ↓GB, List.filterMap_cons, eq_self, BEq.rfl, simprocAttr] at hbl ⊢
    repeat' (first
      | (refine SX.seqK ?_; intro N hN)
      | ((first | (refine SX.ops ?_)); simp only [GA, ↓GB, List.filterMap_cons, eq_self, BEq.rfl, simprocAttr, hnt, hT, hcut, htk, hk, h1, h2', Bool.not_false])
      | ((first | refine SX.skip ?_ | refine SX.exit ?_ | refine SX.label ?_); try simp only [GA, ↓GB, List.filterMap_cons, eq_self, BEq.rfl, simprocAttr])
      | (refine SX.cond rfl (fun hb => ?_) (fun hb => ?_) <;> ((first | cases hb | (simp only [decide_eq_true_eq, decide_eq_false_iff_not, beq_iff_eq, beq_eq_false_iff_ne, bne_iff_ne, Bool.and_eq_true, Bool.or_eq_true, Bool.not_eq_true', Bool.not_eq_false', Bool.and_eq_false_iff, Bool.or_eq_false_iff, Int.not_lt, Int.not_le] at hb) | skip) <;> (first | (exfalso; omega) | skip)))
      | (refine SX.ret ?_; try simp only [GA, ↓GB, List.filterMap_cons, eq_self, BEq.rfl, simprocAttr])
      | (refine hN _ ?_; clear hN N)
      | ((first | refine hK _ _ (FinI.ret3 ?_) | refine hK _ _ (FinI.nrm3 ?_)); simp only [GA, ↓GB, List.filterMap_cons, eq_self, BEq.rfl, simprocAttr, finP_s, hnt, hT, hcut, htk, hk, h1, h2', Bool.not_false]; refine Done.out ?_)
      | (clear hN N; first | (refine hN _ ?_; clear hN N) | (clear hN N; first | (refine hN _ ?_; clear hN N) | (clear hN N; first | (refine hN _ ?_; clear hN N) | (clear hN N; first | (refine hN _ ?_; clear hN N) | (clear hN N; first | (refine hN _ ?_; clear hN N) | (refine hN _ ?_; clear hN N))))))
      | (refine bif2.mk (fun hb => ?_) (fun hb => ?_) <;> (try simp only [hb, GA, ↓GB, List.filterMap_cons, eq_self, BEq.rfl, simprocAttr, hnt, hT, hcut, htk, hk, h1, h2', Bool.not_false]) <;> ((first | cases hb | (simp only [decide_eq_true_eq, decide_eq_false_iff_not, beq_iff_eq, beq_eq_false_iff_ne, bne_iff_ne, Bool.and_eq_true, Bool.or_eq_true, Bool.not_eq_true', Bool.not_eq_false', Bool.and_eq_false_iff, Bool.or_eq_false_iff, Int.not_lt, Int.not_le] at hb) | skip) <;> (first | (exfalso; omega) | skip)))
      | ((first | (refine Ctr.use (hex) hP hG [] ?_ rfl rfl ?_; (focus (refine LeR.of rfl trivial ?_ ?_ ?_ ?_ ?_ <;> first | decide | (simp only [GA, ↓GB, List.filterMap_cons, eq_self, BEq.rfl, simprocAttr, GDs]; done))); intro os' s hR; obtain ⟨rfl, rfl⟩ := hR) | (refine Ctr.use (hnm) hP ?_ [] ?_ rfl rfl ?_; (focus (intro p hp; cases hp)); (focus (refine LeR.of rfl trivial ?_ ?_ ?_ ?_ ?_ <;> first | decide | (simp only [GA, ↓GB, List.filterMap_cons, eq_self, BEq.rfl, simprocAttr, GDs]; done))); intro os' s hR; obtain ⟨rfl, rfl⟩ := hR) | (refine CallVC.pt (l := [_, _]) hP (hp) rfl ?_) | (refine CallQ.pt (l := [_, _]) hP (hp) rfl ?_) | (refine Ctr.use (hg) hP hG [] ?_ rfl rfl ?_; (focus (refine LeR.of rfl trivial ?_ ?_ ?_ ?_ ?_ <;> first | decide | (simp only [GA, ↓GB, List.filterMap_cons, eq_self, BEq.rfl, simprocAttr, GDs]; done))); intro os' s hR; obtain ⟨rfl, rfl⟩ := hR)); simp only [GA, ↓GB, List.filterMap_cons, eq_self, BEq.rfl, simprocAttr, hnt, hT, hcut, htk, hk, h1, h2', Bool.not_false])
      | (refine ⟨_, hS _ hP _ _ _ _ _, ?_⟩)
      | (refine SX.block ?_)
      | (refine and_mk ?_ ?_; (focus first | decide | omega | rfl | assumption | (simp only [List.length_append, List.length_cons, List.length_nil, B_size]; omega) | (simp; done)))
      | (refine And.intro ?_ ?_))
    all_goals (try refine Done.mk ?_)
    all_goals ((refine hN0 _ _ ⟨[], _, _, ?_, ?_, ?_, ⟨rfl, rfl⟩⟩; (focus exact LeR.of rfl trivial (by simp only [GA, ↓GB, List.filterMap_cons, eq_self, BEq.rfl, simprocAttr, GDs]) (by decide) rfl rfl rfl); rotate_left; (focus rfl)); rfl)
  | true =>
    have h0 : (dd == []) = true := by simpa using h3
    intro X0 hP0 hG0 N0 hN0
    refine CallVC.inline (f := 3) (by rw [hP0]; exact Tryd.func3) rfl Tryd.ntmps3 rfl (by simp) ?_
    intro X K hU hnt hbl hK
    have hP : X.P = Tryd.prog := by rw [hU.P, hP0]
    have hG := hG0.under hU
    have hT : calleeOk X.P 17 = true ∧ X.P.underlying 9 = some TypeDesc.string ∧ isStrT X.P 9 = true ∧ X.P.underlying 5 = some (TypeDesc.int IntKind.u8) ∧ X.P.underlying 3 = some (TypeDesc.int IntKind.i64) ∧ isBytesT X.P 5 = false ∧ isStrT X.P 3 = false ∧ calleeOk X.P 18 = true ∧ fieldsOf X.P 26 = some [(0, 1), (1, 1)] ∧ zeroCells X.P 26 = some [(Value.int IntKind.i64 0), (Value.string { data := #[] })] ∧ szOf X.P 26 = some 2 ∧ aggOf X.P 26 = some true ∧ fieldsOf X.P 30 = some [(0, 2), (2, 1), (3, 1), (4, 1)] ∧ zeroCells X.P 30 = some [(Value.int IntKind.i64 0), (Value.string { data := #[] }), (Value.int IntKind.u64 0), (Value.bool false), (Value.string { data := #[] })] ∧ calleeOk X.P 19 = true ∧ calleeOk X.P 20 = true ∧ szOf X.P 30 = some 5 ∧ fieldOff X.P 26 1 = some 1 ∧ aggOf X.P 9 = some false ∧ szOf X.P 9 = some 1 ∧ X.P.underlying 4 = some TypeDesc.bool ∧ aggOf X.P 30 = some true := by rw [hP]; exact ⟨Ty.co17, Tryd.underlying9, Ty.is9, Tryd.underlying5, Tryd.underlying3, Ty.ib5, Ty.is3, Ty.co18, Ty.fs26, Ty.ze26, Ty.sz26, Ty.ag26, Ty.fs30, Ty.ze30, Ty.co19, Ty.co20, Ty.sz30, Ty.fo26_1, Ty.ag9, Ty.sz9, Tryd.underlying4, Ty.ag30⟩
    simp only [GA, ↓GB, List.filterMap_cons, eq_self, BEq.rfl, simprocAttr] at hbl ⊢
    repeat' (first
      | (refine SX.seqK ?_; intro N hN)
      | ((first | (refine SX.ops ?_)); simp only [GA, ↓GB, List.filterMap_cons, eq_self, BEq.rfl, simprocAttr, hnt, hT, hcut, htk, hk, h1, h2', Bool.not_false, h0])
      | ((first | refine SX.skip ?_ | refine SX.exit ?_ | refine SX.label ?_); try simp only [GA, ↓GB, List.filterMap_cons, eq_self, BEq.rfl, simprocAttr])
      | (refine SX.cond rfl (fun hb => ?_) (fun hb => ?_) <;> ((first | cases hb | (simp only [decide_eq_true_eq, decide_eq_false_iff_not, beq_iff_eq, beq_eq_false_iff_ne, bne_iff_ne, Bool.and_eq_true, Bool.or_eq_true, Bool.not_eq_true', Bool.not_eq_false', Bool.and_eq_false_iff, Bool.or_eq_false_iff, Int.not_lt, Int.not_le] at hb) | skip) <;> (first | (exfalso; omega) | skip)))
      | (refine SX.ret ?_; try simp only [GA, ↓GB, List.filterMap_cons, eq_self, BEq.rfl, simprocAttr])
      | (refine hN _ ?_; clear hN N)
      | ((first | refine hK _ _ (FinI.ret3 ?_) | refine hK _ _ (FinI.nrm3 ?_)); simp only [GA, ↓GB, List.filterMap_cons, eq_self, BEq.rfl, simprocAttr, finP_s, hnt, hT, hcut, htk, hk, h1, h2', Bool.not_false, h0]; refine Done.out ?_)
      | (clear hN N; first | (refine hN _ ?_; clear hN N) | (clear hN N; first | (refine hN _ ?_; clear hN N) | (clear hN N; first | (refine hN _ ?_; clear hN N) | (clear hN N; first | (refine hN _ ?_; clear hN N) | (clear hN N; first | (refine hN _ ?_; clear hN N) | (refine hN _ ?_; clear hN N))))))
      | (refine bif2.mk (fun hb => ?_) (fun hb => ?_) <;> (try simp only [hb, GA, ↓GB, List.filterMap_cons, eq_self, BEq.rfl, simprocAttr, hnt, hT, hcut, htk, hk, h1, h2', Bool.not_false, h0]) <;> ((first | cases hb | (simp only [decide_eq_true_eq, decide_eq_false_iff_not, beq_iff_eq, beq_eq_false_iff_ne, bne_iff_ne, Bool.and_eq_true, Bool.or_eq_true, Bool.not_eq_true', Bool.not_eq_false', Bool.and_eq_false_iff, Bool.or_eq_false_iff, Int.not_lt, Int.not_le] at hb) | skip) <;> (first | (exfalso; omega) | skip)))
      | ((first | (refine Ctr.use (hex) hP hG [] ?_ rfl rfl ?_; (focus (refine LeR.of rfl trivial ?_ ?_ ?_ ?_ ?_ <;> first | decide | (simp only [GA, ↓GB, List.filterMap_cons, eq_self, BEq.rfl, simprocAttr, GDs]; done))); intro os' s hR; obtain ⟨rfl, rfl⟩ := hR) | (refine Ctr.use (hnm) hP ?_ [] ?_ rfl rfl ?_; (focus (intro p hp; cases hp)); (focus (refine LeR.of rfl trivial ?_ ?_ ?_ ?_ ?_ <;> first | decide | (simp only [GA, ↓GB, List.filterMap_cons, eq_self, BEq.rfl, simprocAttr, GDs]; done))); intro os' s hR; obtain ⟨rfl, rfl⟩ := hR) | (refine CallVC.pt (l := [_, _]) hP (hp) rfl ?_) | (refine CallQ.pt (l := [_, _]) hP (hp) rfl ?_) | (refine Ctr.use (hg) hP hG [] ?_ rfl rfl ?_; (focus (refine LeR.of rfl trivial ?_ ?_ ?_ ?_ ?_ <;> first | decide | (simp only [GA, ↓GB, List.filterMap_cons, eq_self, BEq.rfl, simprocAttr, GDs]; done))); intro os' s hR; obtain ⟨rfl, rfl⟩ := hR)); simp only [GA, ↓GB, List.filterMap_cons, eq_self, BEq.rfl, simprocAttr, hnt, hT, hcut, htk, hk, h1, h2', Bool.not_false, h0])
      | (refine ⟨_, hS _ hP _ _ _ _ _, ?_⟩)
      | (refine SX.block ?_)
      | (refine and_mk ?_ ?_; (focus first | decide | omega | rfl | assumption | (simp only [List.length_append, List.length_cons, List.length_nil, B_size]; omega) | (simp; done)))
      | (refine And.intro ?_ ?_))
    all_goals (try refine Done.mk ?_)
    all_goals ((refine hN0 _ _ ⟨[], _, _, ?_, ?_, ?_, ⟨rfl, rfl⟩⟩; (focus exact LeR.of rfl trivial (by simp only [GA, ↓GB, List.filterMap_cons, eq_self, BEq.rfl, simprocAttr, GDs]) (by decide) rfl rfl rfl); rotate_left; (focus rfl)); rfl)
end Go.Proofs.YtbdacbcpniegiaaDoor
namespace Go.Proofs.YtbdacbcpniegiaaDoor
open Go Go.RowKit Go.Proofs Go.Sx
set_option maxHeartbeats 16000000
set_option maxRecDepth 100000
set_option linter.unusedSimpArgs false
set_option linter.unusedVariables false
theorem status_star {e : EA} (he : e.Ok) (n q : Nat) (hn : n < 256) (hq : q < 18446744073709551616) (ok : Bool) (d : List UInt8) (hl : d.length ≤ 9223372036854775807) (h1 : (nameL n == [42]) = true) :
    Ctr Tryd.prog (GE e) 3 [] [vv (.int .u8 n), vv (.int .u64 q), vv (.bool ok), vv (.string (B d))] (fun os v => os = [] ∧ v = vv (.bool true)) := by
  have hex := ex05_ctr he
  have hdl : (d.take 100).length ≤ 100 := by rw [List.length_take]; omega
  have hw := want_name hn q ok (d.take 100) hdl
  rw [h1] at hw
  have hnl := nameL_len ⟨n, hn⟩
  simp only at hnl
  have hnm := name_ctr n hn
  have hp := putStatus_any ((1 + n % 5 : Nat) : Int) (nameL n) q ok (d.take 100) (by omega) hq
  simp only [hw, Bool.not_false, Bool.not_true, Bool.true_and, Bool.false_and, Bool.and_false, Bool.or_false, Bool.false_eq_true, if_false] at hp
  have hg := getStatus_ctr he [] (by decide)
  rw [show statR [] = none from rfl] at hg
  simp only [statV] at hg
  have hk : IntKind.i64.wrap (1 + IntKind.i64.wrap ((n : Int).tmod 5)) = ((1 + n % 5 : Nat) : Int) := by
    rw [Int.tmod_eq_emod_of_nonneg (by omega), wI64 (x := (n : Int) % 5) (by omega) (by omega), wI64 (by omega) (by omega)]; omega
  have hcut := cut100 d
  have htk : List.take (min d.length 100 - 0) d = d.take 100 := by
    rw [Nat.sub_zero]
    rcases Nat.le_total d.length 100 with h | h
    · rw [Nat.min_eq_left h, List.take_length, List.take_of_length_le h]
    · rw [Nat.min_eq_right h]
  have hle : min d.length 100 ≤ d.length := Nat.min_le_left _ _
  clear hw
  generalize nameL n = s at *
  generalize d.take 100 = dd at *
  generalize 1 + n % 5 = t at *
  refine Ctr.less ?_
  intro X0 hP0 hG0 N0 hN0
  refine CallVC.inline (f := 3) (by rw [hP0]; exact Tryd.func3) rfl Tryd.ntmps3 rfl (by simp) ?_
  intro X K hU hnt hbl hK
  have hP : X.P = Tryd.prog := by rw [hU.P, hP0]
  have hG := hG0.under hU
  have hT : calleeOk X.P 17 = true ∧ X.P.underlying 9 = some TypeDesc.string ∧ isStrT X.P 9 = true ∧ X.P.underlying 5 = some (TypeDesc.int IntKind.u8) ∧ X.P.underlying 3 = some (TypeDesc.int IntKind.i64) ∧ isBytesT X.P 5 = false ∧ isStrT X.P 3 = false ∧ calleeOk X.P 18 = true ∧ fieldsOf X.P 26 = some [(0, 1), (1, 1)] ∧ zeroCells X.P 26 = some [(Value.int IntKind.i64 0), (Value.string { data := #[] })] ∧ szOf X.P 26 = some 2 ∧ aggOf X.P 26 = some true ∧ fieldsOf X.P 30 = some [(0, 2), (2, 1), (3, 1), (4, 1)] ∧ zeroCells X.P 30 = some [(Value.int IntKind.i64 0), (Value.string { data := #[] }), (Value.int IntKind.u64 0), (Value.bool false), (Value.string { data := #[] })] ∧ calleeOk X.P 19 = true ∧ calleeOk X.P 20 = true ∧ szOf X.P 30 = some 5 ∧ fieldOff X.P 26 1 = some 1 ∧ aggOf X.P 9 = some false ∧ szOf X.P 9 = some 1 ∧ X.P.underlying 4 = some TypeDesc.bool ∧ aggOf X.P 30 = some true := by rw [hP]; exact ⟨Ty.co17, Tryd.underlying9, Ty.is9, Tryd.underlying5, Tryd.underlying3, Ty.ib5, Ty.is3, Ty.co18, Ty.fs26, Ty.ze26, Ty.sz26, Ty.ag26, Ty.fs30, Ty.ze30, Ty.co19, Ty.co20, Ty.sz30, Ty.fo26_1, Ty.ag9, Ty.sz9, Tryd.underlying4, Ty.ag30⟩
  simp only [GA, ↓GB, List.filterMap_cons, eq_self, BEq.rfl, simprocAttr] at hbl ⊢
  repeat' (first
    | (refine SX.seqK ?_; intro N hN)
    | ((first | (refine SX.ops ?_)); simp only [GA, ↓GB, List.filterMap_cons, eq_self, BEq.rfl, simprocAttr, hnt, hT, hcut, htk, hk, Bool.not_false, Bool.not_true, h1])
    | ((first | refine SX.skip ?_ | refine SX.exit ?_ | refine SX.label ?_); try simp only [GA, ↓GB, List.filterMap_cons, eq_self, BEq.rfl, simprocAttr])
    | (refine SX.cond rfl (fun hb => ?_) (fun hb => ?_) <;> ((first | cases hb | (simp only [decide_eq_true_eq, decide_eq_false_iff_not, beq_iff_eq, beq_eq_false_iff_ne, bne_iff_ne, Bool.and_eq_true, Bool.or_eq_true, Bool.not_eq_true', Bool.not_eq_false', Bool.and_eq_false_iff, Bool.or_eq_false_iff, Int.not_lt, Int.not_le] at hb) | skip) <;> (first | (exfalso; omega) | skip)))
    | (refine SX.ret ?_; try simp only [GA, ↓GB, List.filterMap_cons, eq_self, BEq.rfl, simprocAttr])
    | (refine hN _ ?_; clear hN N)
    | ((first | refine hK _ _ (FinI.ret3 ?_) | refine hK _ _ (FinI.nrm3 ?_)); simp only [GA, ↓GB, List.filterMap_cons, eq_self, BEq.rfl, simprocAttr, finP_s, hnt, hT, hcut, htk, hk, Bool.not_false, Bool.not_true, h1]; refine Done.out ?_)
    | (clear hN N; first | (refine hN _ ?_; clear hN N) | (clear hN N; first | (refine hN _ ?_; clear hN N) | (clear hN N; first | (refine hN _ ?_; clear hN N) | (clear hN N; first | (refine hN _ ?_; clear hN N) | (clear hN N; first | (refine hN _ ?_; clear hN N) | (refine hN _ ?_; clear hN N))))))
    | (refine bif2.mk (fun hb => ?_) (fun hb => ?_) <;> (try simp only [hb, GA, ↓GB, List.filterMap_cons, eq_self, BEq.rfl, simprocAttr, hnt, hT, hcut, htk, hk, Bool.not_false, Bool.not_true, h1]) <;> ((first | cases hb | (simp only [decide_eq_true_eq, decide_eq_false_iff_not, beq_iff_eq, beq_eq_false_iff_ne, bne_iff_ne, Bool.and_eq_true, Bool.or_eq_true, Bool.not_eq_true', Bool.not_eq_false', Bool.and_eq_false_iff, Bool.or_eq_false_iff, Int.not_lt, Int.not_le] at hb) | skip) <;> (first | (exfalso; omega) | skip)))
    | ((first | (refine Ctr.use (hex) hP hG [] ?_ rfl rfl ?_; (focus (refine LeR.of rfl trivial ?_ ?_ ?_ ?_ ?_ <;> first | decide | (simp only [GA, ↓GB, List.filterMap_cons, eq_self, BEq.rfl, simprocAttr, GDs]; done))); intro os' s hR; obtain ⟨rfl, rfl⟩ := hR) | (refine Ctr.use (hnm) hP ?_ [] ?_ rfl rfl ?_; (focus (intro p hp; cases hp)); (focus (refine LeR.of rfl trivial ?_ ?_ ?_ ?_ ?_ <;> first | decide | (simp only [GA, ↓GB, List.filterMap_cons, eq_self, BEq.rfl, simprocAttr, GDs]; done))); intro os' s hR; obtain ⟨rfl, rfl⟩ := hR) | (refine CallVC.pt (l := [_, _]) hP (hp) rfl ?_) | (refine CallQ.pt (l := [_, _]) hP (hp) rfl ?_) | (refine Ctr.use (hg) hP hG [] ?_ rfl rfl ?_; (focus (refine LeR.of rfl trivial ?_ ?_ ?_ ?_ ?_ <;> first | decide | (simp only [GA, ↓GB, List.filterMap_cons, eq_self, BEq.rfl, simprocAttr, GDs]; done))); intro os' s hR; obtain ⟨rfl, rfl⟩ := hR)); simp only [GA, ↓GB, List.filterMap_cons, eq_self, BEq.rfl, simprocAttr, hnt, hT, hcut, htk, hk, Bool.not_false, Bool.not_true, h1])
    | (refine SX.block ?_)
    | (refine and_mk ?_ ?_; (focus first | decide | omega | rfl | assumption | (simp only [List.length_append, List.length_cons, List.length_nil, B_size]; omega) | (simp; done)))
    | (refine And.intro ?_ ?_))
  all_goals (try refine Done.mk ?_)
  all_goals ((refine hN0 _ _ ⟨[], _, _, ?_, ?_, ?_, ⟨rfl, rfl⟩⟩; (focus exact LeR.of rfl trivial (by simp only [GA, ↓GB, List.filterMap_cons, eq_self, BEq.rfl, simprocAttr, GDs]) (by decide) rfl rfl rfl); rotate_left; (focus rfl)); rfl)
theorem status_zero {e : EA} (he : e.Ok) (n q : Nat) (hn : n < 256) (hq : q < 18446744073709551616) (ok : Bool) (d : List UInt8) (hl : d.length ≤ 9223372036854775807) (h1 : (nameL n == [42]) = false) (h2 : decide ((0 : Int) < (q : Int)) = false) :
    Ctr Tryd.prog (GE e) 3 [] [vv (.int .u8 n), vv (.int .u64 q), vv (.bool ok), vv (.string (B d))] (fun os v => os = [] ∧ v = vv (.bool true)) := by
  have hex := ex05_ctr he
  have hdl : (d.take 100).length ≤ 100 := by rw [List.length_take]; omega
  have hw := want_name hn q ok (d.take 100) hdl
  rw [h1, h2] at hw
  have hnl := nameL_len ⟨n, hn⟩
  simp only at hnl
  have hnm := name_ctr n hn
  have hp := putStatus_any ((1 + n % 5 : Nat) : Int) (nameL n) q ok (d.take 100) (by omega) hq
  simp only [hw, Bool.not_false, Bool.not_true, Bool.true_and, Bool.false_and, Bool.and_false, Bool.or_false, Bool.false_eq_true, if_false] at hp
  have hg := getStatus_ctr he [] (by decide)
  rw [show statR [] = none from rfl] at hg
  simp only [statV] at hg
  have hk : IntKind.i64.wrap (1 + IntKind.i64.wrap ((n : Int).tmod 5)) = ((1 + n % 5 : Nat) : Int) := by
    rw [Int.tmod_eq_emod_of_nonneg (by omega), wI64 (x := (n : Int) % 5) (by omega) (by omega), wI64 (by omega) (by omega)]; omega
  have hcut := cut100 d
  have htk : List.take (min d.length 100 - 0) d = d.take 100 := by
    rw [Nat.sub_zero]
    rcases Nat.le_total d.length 100 with h | h
    · rw [Nat.min_eq_left h, List.take_length, List.take_of_length_le h]
    · rw [Nat.min_eq_right h]
  have hle : min d.length 100 ≤ d.length := Nat.min_le_left _ _
  clear hw
  generalize nameL n = s at *
  generalize d.take 100 = dd at *
  generalize 1 + n % 5 = t at *
  refine Ctr.less ?_
  intro X0 hP0 hG0 N0 hN0
  refine CallVC.inline (f := 3) (by rw [hP0]; exact Tryd.func3) rfl Tryd.ntmps3 rfl (by simp) ?_
  intro X K hU hnt hbl hK
  have hP : X.P = Tryd.prog := by rw [hU.P, hP0]
  have hG := hG0.under hU
  have hT : calleeOk X.P 17 = true ∧ X.P.underlying 9 = some TypeDesc.string ∧ isStrT X.P 9 = true ∧ X.P.underlying 5 = some (TypeDesc.int IntKind.u8) ∧ X.P.underlying 3 = some (TypeDesc.int IntKind.i64) ∧ isBytesT X.P 5 = false ∧ isStrT X.P 3 = false ∧ calleeOk X.P 18 = true ∧ fieldsOf X.P 26 = some [(0, 1), (1, 1)] ∧ zeroCells X.P 26 = some [(Value.int IntKind.i64 0), (Value.string { data := #[] })] ∧ szOf X.P 26 = some 2 ∧ aggOf X.P 26 = some true ∧ fieldsOf X.P 30 = some [(0, 2), (2, 1), (3, 1), (4, 1)] ∧ zeroCells X.P 30 = some [(Value.int IntKind.i64 0), (Value.string { data := #[] }), (Value.int IntKind.u64 0), (Value.bool false), (Value.string { data := #[] })] ∧ calleeOk X.P 19 = true ∧ calleeOk X.P 20 = true ∧ szOf X.P 30 = some 5 ∧ fieldOff X.P 26 1 = some 1 ∧ aggOf X.P 9 = some false ∧ szOf X.P 9 = some 1 ∧ X.P.underlying 4 = some TypeDesc.bool ∧ aggOf X.P 30 = some true := by rw [hP]; exact ⟨Ty.co17, Tryd.underlying9, Ty.is9, Tryd.underlying5, Tryd.underlying3, Ty.ib5, Ty.is3, Ty.co18, Ty.fs26, Ty.ze26, Ty.sz26, Ty.ag26, Ty.fs30, Ty.ze30, Ty.co19, Ty.co20, Ty.sz30, Ty.fo26_1, Ty.ag9, Ty.sz9, Tryd.underlying4, Ty.ag30⟩
  simp only [GA, ↓GB, List.filterMap_cons, eq_self, BEq.rfl, simprocAttr] at hbl ⊢
  repeat' (first
    | (refine SX.seqK ?_; intro N hN)
    | ((first | (refine SX.ops ?_)); simp only [GA, ↓GB, List.filterMap_cons, eq_self, BEq.rfl, simprocAttr, hnt, hT, hcut, htk, hk, Bool.not_false, Bool.not_true, h1, h2])
    | ((first | refine SX.skip ?_ | refine SX.exit ?_ | refine SX.label ?_); try simp only [GA, ↓GB, List.filterMap_cons, eq_self, BEq.rfl, simprocAttr])
    | (refine SX.cond rfl (fun hb => ?_) (fun hb => ?_) <;> ((first | cases hb | (simp only [decide_eq_true_eq, decide_eq_false_iff_not, beq_iff_eq, beq_eq_false_iff_ne, bne_iff_ne, Bool.and_eq_true, Bool.or_eq_true, Bool.not_eq_true', Bool.not_eq_false', Bool.and_eq_false_iff, Bool.or_eq_false_iff, Int.not_lt, Int.not_le] at hb) | skip) <;> (first | (exfalso; omega) | skip)))
    | (refine SX.ret ?_; try simp only [GA, ↓GB, List.filterMap_cons, eq_self, BEq.rfl, simprocAttr])
    | (refine hN _ ?_; clear hN N)
    | ((first | refine hK _ _ (FinI.ret3 ?_) | refine hK _ _ (FinI.nrm3 ?_)); simp only [GA, ↓GB, List.filterMap_cons, eq_self, BEq.rfl, simprocAttr, finP_s, hnt, hT, hcut, htk, hk, Bool.not_false, Bool.not_true, h1, h2]; refine Done.out ?_)
    | (clear hN N; first | (refine hN _ ?_; clear hN N) | (clear hN N; first | (refine hN _ ?_; clear hN N) | (clear hN N; first | (refine hN _ ?_; clear hN N) | (clear hN N; first | (refine hN _ ?_; clear hN N) | (clear hN N; first | (refine hN _ ?_; clear hN N) | (refine hN _ ?_; clear hN N))))))
    | (refine bif2.mk (fun hb => ?_) (fun hb => ?_) <;> (try simp only [hb, GA, ↓GB, List.filterMap_cons, eq_self, BEq.rfl, simprocAttr, hnt, hT, hcut, htk, hk, Bool.not_false, Bool.not_true, h1, h2]) <;> ((first | cases hb | (simp only [decide_eq_true_eq, decide_eq_false_iff_not, beq_iff_eq, beq_eq_false_iff_ne, bne_iff_ne, Bool.and_eq_true, Bool.or_eq_true, Bool.not_eq_true', Bool.not_eq_false', Bool.and_eq_false_iff, Bool.or_eq_false_iff, Int.not_lt, Int.not_le] at hb) | skip) <;> (first | (exfalso; omega) | skip)))
    | ((first | (refine Ctr.use (hex) hP hG [] ?_ rfl rfl ?_; (focus (refine LeR.of rfl trivial ?_ ?_ ?_ ?_ ?_ <;> first | decide | (simp only [GA, ↓GB, List.filterMap_cons, eq_self, BEq.rfl, simprocAttr, GDs]; done))); intro os' s hR; obtain ⟨rfl, rfl⟩ := hR) | (refine Ctr.use (hnm) hP ?_ [] ?_ rfl rfl ?_; (focus (intro p hp; cases hp)); (focus (refine LeR.of rfl trivial ?_ ?_ ?_ ?_ ?_ <;> first | decide | (simp only [GA, ↓GB, List.filterMap_cons, eq_self, BEq.rfl, simprocAttr, GDs]; done))); intro os' s hR; obtain ⟨rfl, rfl⟩ := hR) | (refine CallVC.pt (l := [_, _]) hP (hp) rfl ?_) | (refine CallQ.pt (l := [_, _]) hP (hp) rfl ?_) | (refine Ctr.use (hg) hP hG [] ?_ rfl rfl ?_; (focus (refine LeR.of rfl trivial ?_ ?_ ?_ ?_ ?_ <;> first | decide | (simp only [GA, ↓GB, List.filterMap_cons, eq_self, BEq.rfl, simprocAttr, GDs]; done))); intro os' s hR; obtain ⟨rfl, rfl⟩ := hR)); simp only [GA, ↓GB, List.filterMap_cons, eq_self, BEq.rfl, simprocAttr, hnt, hT, hcut, htk, hk, Bool.not_false, Bool.not_true, h1, h2])
    | (refine SX.block ?_)
    | (refine and_mk ?_ ?_; (focus first | decide | omega | rfl | assumption | (simp only [List.length_append, List.length_cons, List.length_nil, B_size]; omega) | (simp; done)))
    | (refine And.intro ?_ ?_))
  all_goals (try refine Done.mk ?_)
  all_goals ((refine hN0 _ _ ⟨[], _, _, ?_, ?_, ?_, ⟨rfl, rfl⟩⟩; (focus exact LeR.of rfl trivial (by simp only [GA, ↓GB, List.filterMap_cons, eq_self, BEq.rfl, simprocAttr, GDs]) (by decide) rfl rfl rfl); rotate_left; (focus rfl)); rfl)
theorem status_long {e : EA} (he : e.Ok) (n q : Nat) (hn : n < 256) (hq : q < 18446744073709551616) (d : List UInt8) (hl : d.length ≤ 9223372036854775807) (h1 : (nameL n == [42]) = false) (h2 : decide ((0 : Int) < (q : Int)) = true) (h0 : (d.take 100 == []) = false) :
    Ctr Tryd.prog (GE e) 3 [] [vv (.int .u8 n), vv (.int .u64 q), vv (.bool true), vv (.string (B d))] (fun os v => os = [] ∧ v = vv (.bool true)) := by
  have hex := ex05_ctr he
  have hdl : (d.take 100).length ≤ 100 := by rw [List.length_take]; omega
  have hw := want_name hn q true (d.take 100) hdl
  rw [h1, h2, h0] at hw
  have hnl := nameL_len ⟨n, hn⟩
  simp only at hnl
  have hnm := name_ctr n hn
  have hp := putStatus_any ((1 + n % 5 : Nat) : Int) (nameL n) q true (d.take 100) (by omega) hq
  simp only [hw, Bool.not_false, Bool.not_true, Bool.true_and, Bool.false_and, Bool.and_false, Bool.or_false, Bool.false_eq_true, if_false] at hp
  have hg := getStatus_ctr he [] (by decide)
  rw [show statR [] = none from rfl] at hg
  simp only [statV] at hg
  have hk : IntKind.i64.wrap (1 + IntKind.i64.wrap ((n : Int).tmod 5)) = ((1 + n % 5 : Nat) : Int) := by
    rw [Int.tmod_eq_emod_of_nonneg (by omega), wI64 (x := (n : Int) % 5) (by omega) (by omega), wI64 (by omega) (by omega)]; omega
  have hcut := cut100 d
  have htk : List.take (min d.length 100 - 0) d = d.take 100 := by
    rw [Nat.sub_zero]
    rcases Nat.le_total d.length 100 with h | h
    · rw [Nat.min_eq_left h, List.take_length, List.take_of_length_le h]
    · rw [Nat.min_eq_right h]
  have hle : min d.length 100 ≤ d.length := Nat.min_le_left _ _
  clear hw
  generalize nameL n = s at *
  generalize d.take 100 = dd at *
  generalize 1 + n % 5 = t at *
  refine Ctr.less ?_
  intro X0 hP0 hG0 N0 hN0
  refine CallVC.inline (f := 3) (by rw [hP0]; exact Tryd.func3) rfl Tryd.ntmps3 rfl (by simp) ?_
  intro X K hU hnt hbl hK
  have hP : X.P = Tryd.prog := by rw [hU.P, hP0]
  have hG := hG0.under hU
  have hT : calleeOk X.P 17 = true ∧ X.P.underlying 9 = some TypeDesc.string ∧ isStrT X.P 9 = true ∧ X.P.underlying 5 = some (TypeDesc.int IntKind.u8) ∧ X.P.underlying 3 = some (TypeDesc.int IntKind.i64) ∧ isBytesT X.P 5 = false ∧ isStrT X.P 3 = false ∧ calleeOk X.P 18 = true ∧ fieldsOf X.P 26 = some [(0, 1), (1, 1)] ∧ zeroCells X.P 26 = some [(Value.int IntKind.i64 0), (Value.string { data := #[] })] ∧ szOf X.P 26 = some 2 ∧ aggOf X.P 26 = some true ∧ fieldsOf X.P 30 = some [(0, 2), (2, 1), (3, 1), (4, 1)] ∧ zeroCells X.P 30 = some [(Value.int IntKind.i64 0), (Value.string { data := #[] }), (Value.int IntKind.u64 0), (Value.bool false), (Value.string { data := #[] })] ∧ calleeOk X.P 19 = true ∧ calleeOk X.P 20 = true ∧ szOf X.P 30 = some 5 ∧ fieldOff X.P 26 1 = some 1 ∧ aggOf X.P 9 = some false ∧ szOf X.P 9 = some 1 ∧ X.P.underlying 4 = some TypeDesc.bool ∧ aggOf X.P 30 = some true := by rw [hP]; exact ⟨Ty.co17, Tryd.underlying9, Ty.is9, Tryd.underlying5, Tryd.underlying3, Ty.ib5, Ty.is3, Ty.co18, Ty.fs26, Ty.ze26, Ty.sz26, Ty.ag26, Ty.fs30, Ty.ze30, Ty.co19, Ty.co20, Ty.sz30, Ty.fo26_1, Ty.ag9, Ty.sz9, Tryd.underlying4, Ty.ag30⟩
  simp only [GA, ↓GB, List.filterMap_cons, eq_self, BEq.rfl, simprocAttr] at hbl ⊢
  repeat' (first
    | (refine SX.seqK ?_; intro N hN)
    | ((first | (refine SX.ops ?_)); simp only [GA, ↓GB, List.filterMap_cons, eq_self, BEq.rfl, simprocAttr, hnt, hT, hcut, htk, hk, Bool.not_false, Bool.not_true, h1, h2, h0])
    | ((first | refine SX.skip ?_ | refine SX.exit ?_ | refine SX.label ?_); try simp only [GA, ↓GB, List.filterMap_cons, eq_self, BEq.rfl, simprocAttr])
    | (refine SX.cond rfl (fun hb => ?_) (fun hb => ?_) <;> ((first | cases hb | (simp only [decide_eq_true_eq, decide_eq_false_iff_not, beq_iff_eq, beq_eq_false_iff_ne, bne_iff_ne, Bool.and_eq_true, Bool.or_eq_true, Bool.not_eq_true', Bool.not_eq_false', Bool.and_eq_false_iff, Bool.or_eq_false_iff, Int.not_lt, Int.not_le] at hb) | skip) <;> (first | (exfalso; omega) | skip)))
    | (refine SX.ret ?_; try simp only [GA, ↓GB, List.filterMap_cons, eq_self, BEq.rfl, simprocAttr])
    | (refine hN _ ?_; clear hN N)
    | ((first | refine hK _ _ (FinI.ret3 ?_) | refine hK _ _ (FinI.nrm3 ?_)); simp only [GA, ↓GB, List.filterMap_cons, eq_self, BEq.rfl, simprocAttr, finP_s, hnt, hT, hcut, htk, hk, Bool.not_false, Bool.not_true, h1, h2, h0]; refine Done.out ?_)
    | (clear hN N; first | (refine hN _ ?_; clear hN N) | (clear hN N; first | (refine hN _ ?_; clear hN N) | (clear hN N; first | (refine hN _ ?_; clear hN N) | (clear hN N; first | (refine hN _ ?_; clear hN N) | (clear hN N; first | (refine hN _ ?_; clear hN N) | (refine hN _ ?_; clear hN N))))))
    | (refine bif2.mk (fun hb => ?_) (fun hb => ?_) <;> (try simp only [hb, GA, ↓GB, List.filterMap_cons, eq_self, BEq.rfl, simprocAttr, hnt, hT, hcut, htk, hk, Bool.not_false, Bool.not_true, h1, h2, h0]) <;> ((first | cases hb | (simp only [decide_eq_true_eq, decide_eq_false_iff_not, beq_iff_eq, beq_eq_false_iff_ne, bne_iff_ne, Bool.and_eq_true, Bool.or_eq_true, Bool.not_eq_true', Bool.not_eq_false', Bool.and_eq_false_iff, Bool.or_eq_false_iff, Int.not_lt, Int.not_le] at hb) | skip) <;> (first | (exfalso; omega) | skip)))
    | ((first | (refine Ctr.use (hex) hP hG [] ?_ rfl rfl ?_; (focus (refine LeR.of rfl trivial ?_ ?_ ?_ ?_ ?_ <;> first | decide | (simp only [GA, ↓GB, List.filterMap_cons, eq_self, BEq.rfl, simprocAttr, GDs]; done))); intro os' s hR; obtain ⟨rfl, rfl⟩ := hR) | (refine Ctr.use (hnm) hP ?_ [] ?_ rfl rfl ?_; (focus (intro p hp; cases hp)); (focus (refine LeR.of rfl trivial ?_ ?_ ?_ ?_ ?_ <;> first | decide | (simp only [GA, ↓GB, List.filterMap_cons, eq_self, BEq.rfl, simprocAttr, GDs]; done))); intro os' s hR; obtain ⟨rfl, rfl⟩ := hR) | (refine CallVC.pt (l := [_, _]) hP (hp) rfl ?_) | (refine CallQ.pt (l := [_, _]) hP (hp) rfl ?_) | (refine Ctr.use (hg) hP hG [] ?_ rfl rfl ?_; (focus (refine LeR.of rfl trivial ?_ ?_ ?_ ?_ ?_ <;> first | decide | (simp only [GA, ↓GB, List.filterMap_cons, eq_self, BEq.rfl, simprocAttr, GDs]; done))); intro os' s hR; obtain ⟨rfl, rfl⟩ := hR)); simp only [GA, ↓GB, List.filterMap_cons, eq_self, BEq.rfl, simprocAttr, hnt, hT, hcut, htk, hk, Bool.not_false, Bool.not_true, h1, h2, h0])
    | (refine SX.block ?_)
    | (refine and_mk ?_ ?_; (focus first | decide | omega | rfl | assumption | (simp only [List.length_append, List.length_cons, List.length_nil, B_size]; omega) | (simp; done)))
    | (refine And.intro ?_ ?_))
  all_goals (try refine Done.mk ?_)
  all_goals ((refine hN0 _ _ ⟨[], _, _, ?_, ?_, ?_, ⟨rfl, rfl⟩⟩; (focus exact LeR.of rfl trivial (by simp only [GA, ↓GB, List.filterMap_cons, eq_self, BEq.rfl, simprocAttr, GDs]) (by decide) rfl rfl rfl); rotate_left; (focus rfl)); rfl)
theorem status_ctr {e : EA} (he : e.Ok) (n q : Nat) (hn : n < 256) (hq : q < 18446744073709551616) (ok : Bool) (d : List UInt8) (hl : d.length ≤ 9223372036854775807) :
    Ctr Tryd.prog (GE e) 3 [] [vv (.int .u8 n), vv (.int .u64 q), vv (.bool ok), vv (.string (B d))] (fun os v => os = [] ∧ v = vv (.bool true)) := by
  cases h1 : (nameL n == [42]) with
  | true => exact status_star he n q hn hq ok d hl h1
  | false =>
    by_cases h2 : 0 < q
    · cases h0 : (!ok || d.take 100 == []) with
      | true => exact status_yes he n q hn hq ok d hl h1 h2 h0
      | false =>
        cases ok with
        | false => cases h0
        | true => exact status_long he n q hn hq d hl h1 (decide_eq_true (by omega)) (by simpa using h0)
    · exact status_zero he n q hn hq ok d hl h1 (decide_eq_false (by omega))
end Go.Proofs.YtbdacbcpniegiaaDoor
namespace Go.Proofs.YtbdacbcpniegiaaDoor.Q
open Go Go.RowKit Go.Proofs Go.Sx Go.ChangeShapes
set_option maxRecDepth 100000
set_option linter.unusedSimpArgs false
set_option linter.unusedVariables false
theorem star : "*" ++ "errors.errorString" = "*errors.errorString" := by decide
theorem row253 (u : TypeId) (h : Tryd.prog.typeName? 3 u = some "*errors.errorString") : u = 253 :=
  typeName_ptr_named (nm := "errors.errorString") (by rw [star]; kernel_rfl) (by kernel_rfl) (by decide) u (by rw [star]; exact h)
theorem nShort : Tryd.prog.globalNamed "noria/wire.errShort" = some 2 := by kernel_rfl
theorem nWrong : Tryd.prog.globalNamed "noria/wire.errWrong" = some 3 := by kernel_rfl
theorem tShort : (Tryd.prog.globals[2]?).map (·.type) = some 125 := by kernel_rfl
theorem tWrong : (Tryd.prog.globals[3]?).map (·.type) = some 125 := by kernel_rfl
theorem c277 : Tryd.prog.cellsOf 277 = 1 := by kernel_rfl
theorem c9 : Tryd.prog.cellsOf 9 = 1 := by kernel_rfl
end Go.Proofs.YtbdacbcpniegiaaDoor.Q
namespace Go.Proofs.YtbdacbcpniegiaaDoor.Q
open Go Go.RowKit Go.Proofs Go.Sx Go.ChangeShapes
set_option maxRecDepth 100000
set_option linter.unusedSimpArgs false
set_option linter.unusedVariables false
theorem nKind : Tryd.prog.globalNamed "noria/message.errKind" = some 0 := by kernel_rfl
theorem nForm : Tryd.prog.globalNamed "noria/message.errForm" = some 1 := by kernel_rfl
theorem tKind : (Tryd.prog.globals[0]?).map (·.type) = some 125 := by kernel_rfl
theorem tForm : (Tryd.prog.globals[1]?).map (·.type) = some 125 := by kernel_rfl
theorem ge_of_laid {W : World} {n0 n3 : String} {d0 d3 : DataW Unit} (h : laidMet Tryd.prog [(n0, d0), ("noria/wire.errShort", Rows.laid_noria_wire_errShort), ("noria/wire.errWrong", Rows.laid_noria_wire_errWrong), ("noria/message.errKind", Rows.laid_noria_message_errKind), ("noria/message.errForm", Rows.laid_noria_message_errForm), (n3, d3)] W) :
    ∃ e : EA, e.Ok ∧ ∀ p ∈ GE e, W.cell? p.1 = some p.2 ∧ loneStr W p := by
  obtain ⟨ps, ⟨gx, tx, csx, fx, px, qx, hgx, htx, hvx, hdx, ⟨gz, tz, csz, fz, pz, qz, hgz, htz, hvz, hdz, ⟨gw, tw, csw, fw, pw, qw, hgw, htw, hvw, hdw, ⟨gk, tk, csk, fk, pk, qk, hgk, htk, hvk, hdk, ⟨gf, tf, csf, ff, pf, qf, hgf, htf, hvf, hdf, hq9, ef⟩, ek⟩, ew⟩, ez⟩, ex⟩, hnd, hrows⟩ := h
  obtain rfl := Option.some.inj (nShort.symm.trans hgz)
  obtain rfl := Option.some.inj (tShort.symm.trans htz)
  obtain rfl := Option.some.inj (nWrong.symm.trans hgw)
  obtain rfl := Option.some.inj (tWrong.symm.trans htw)
  obtain rfl := Option.some.inj (nKind.symm.trans hgk)
  obtain rfl := Option.some.inj (tKind.symm.trans htk)
  obtain rfl := Option.some.inj (nForm.symm.trans hgf)
  obtain rfl := Option.some.inj (tForm.symm.trans htf)
  subst ef
  subst ek
  subst ew
  subst ez
  subst ex
  obtain ⟨lz⟩ := csz
  obtain ⟨lw⟩ := csw
  obtain ⟨lk⟩ := csk
  obtain ⟨lf⟩ := csf
  have okz : ∀ u v, lz = [.iface u v] → Value.okWide Tryd.prog W .any 0 u v := fun u v e => by
    subst e
    exact (hrows 2 0 (by simp [MemPlace.row])).2 u v (by simpa using World.var?_cell hgz hvz 0)
  have okw : ∀ u v, lw = [.iface u v] → Value.okWide Tryd.prog W .any 0 u v := fun u v e => by
    subst e
    exact (hrows 3 0 (by simp [MemPlace.row])).2 u v (by simpa using World.var?_cell hgw hvw 0)
  have okk : ∀ u v, lk = [.iface u v] → Value.okWide Tryd.prog W .any 0 u v := fun u v e => by
    subst e
    exact (hrows 0 0 (by simp [MemPlace.row])).2 u v (by simpa using World.var?_cell hgk hvk 0)
  have okf : ∀ u v, lf = [.iface u v] → Value.okWide Tryd.prog W .any 0 u v := fun u v e => by
    subst e
    exact (hrows 1 0 (by simp [MemPlace.row])).2 u v (by simpa using World.var?_cell hgf hvf 0)
  obtain ⟨az, sz, rfl, hcz, hsz, hzz, rfl⟩ := errorString_of_trod Tryd.underlying125 row253 Tryd.underlying253 Tryd.underlying277 rfl rfl Tryd.underlying9 c277 c9 hdz okz
  obtain ⟨aw, sw, rfl, hcw, hsw, hzw, rfl⟩ := errorString_of_trod Tryd.underlying125 row253 Tryd.underlying253 Tryd.underlying277 rfl rfl Tryd.underlying9 c277 c9 hdw okw
  obtain ⟨ak, sk, rfl, hck, hsk, hzk, rfl⟩ := errorString_of_trod Tryd.underlying125 row253 Tryd.underlying253 Tryd.underlying277 rfl rfl Tryd.underlying9 c277 c9 hdk okk
  obtain ⟨af, sf, rfl, hcf, hsf, hzf, rfl⟩ := errorString_of_trod Tryd.underlying125 row253 Tryd.underlying253 Tryd.underlying277 rfl rfl Tryd.underlying9 c277 c9 hdf okf
  obtain ⟨bz, uz, hbz⟩ := (hrows az.block az.off (by simp [MemPlace.row])).1
  have hxz : W.cell? ⟨2, 0, none⟩ = some (errV az) := by simpa using World.var?_cell hgz hvz 0
  obtain ⟨bw, uw, hbw⟩ := (hrows aw.block aw.off (by simp [MemPlace.row])).1
  have hxw : W.cell? ⟨3, 0, none⟩ = some (errV aw) := by simpa using World.var?_cell hgw hvw 0
  obtain ⟨bk, uk, hbk⟩ := (hrows ak.block ak.off (by simp [MemPlace.row])).1
  have hxk : W.cell? ⟨0, 0, none⟩ = some (errV ak) := by simpa using World.var?_cell hgk hvk 0
  obtain ⟨bf, uf, hbf⟩ := (hrows af.block af.off (by simp [MemPlace.row])).1
  have hxf : W.cell? ⟨1, 0, none⟩ = some (errV af) := by simpa using World.var?_cell hgf hvf 0
  have key : ∀ (s : ByteArray) (l : List UInt8), s.data.toList = l → s = B l := fun s l h => by
    obtain ⟨⟨x⟩⟩ := s
    have h : x = l := h
    rw [h]; rfl
  have esz : sz = B tS := key _ _ hsz
  rw [esz] at hcz
  have esw : sw = B tW := key _ _ hsw
  rw [esw] at hcw
  have esk : sk = B tK := key _ _ hsk
  rw [esk] at hck
  have esf : sf = B tF := key _ _ hsf
  rw [esf] at hcf
  refine ⟨⟨ak, af, az, aw⟩, ?_, ?_⟩
  · have h2 := hnd
    simp [MemPlace.row, List.nodup_append] at h2
    constructor <;> simp only [ne_eq] <;> rintro rfl <;> simp at h2
  · intro p hp
    simp only [GE, List.mem_cons, List.not_mem_nil, or_false] at hp
    rcases hp with rfl | rfl | rfl | rfl | rfl | rfl | rfl | rfl
    · exact ⟨hxk, trivial⟩
    · exact ⟨hxf, trivial⟩
    · exact ⟨hxz, trivial⟩
    · exact ⟨hxw, trivial⟩
    · exact ⟨hck, _, _, hbk⟩
    · exact ⟨hcf, _, _, hbf⟩
    · exact ⟨hcz, _, _, hbz⟩
    · exact ⟨hcw, _, _, hbw⟩
end Go.Proofs.YtbdacbcpniegiaaDoor.Q
namespace Go.Sx
open Go Go.RowKit Go.MapKept
set_option linter.unusedVariables false
set_option linter.unusedSimpArgs false
open Classical in
section
variable {X : Ctx} {c : Cfg} {N : Cfg → Prop} {ty : TypeId} {pos : String} {af : Array Edge} {g : Option (Nat × Bool)}
end
end Go.Sx
namespace Go.Proofs.YtbdacbcpniegiaaDoor
open Go Go.RowKit Go.Proofs Go.Sx
set_option maxHeartbeats 4000000
set_option maxRecDepth 100000
set_option linter.unusedSimpArgs false
set_option linter.unusedVariables false
structure Rs where
  t : Int
  s : List UInt8
  q : Nat
  g : Bool
  b : List UInt8
deriving Inhabited, DecidableEq
def Rs.cells (r : Rs) : List Value := [.int .i64 r.t, .string (B r.s), .int .u64 r.q, .bool r.g, .string (B r.b)]
def resB (r : Rs) (t : Nat) : List UInt8 := numB 1 t ++ textB 2 r.s ++ numB 3 r.q ++ (if r.g then numB 4 1 else []) ++ (if r.b = [] then [] else textB 5 r.b)
end Go.Proofs.YtbdacbcpniegiaaDoor
namespace Go.Proofs.YtbdacbcpniegiaaDoor
open Go Go.RowKit Go.Proofs Go.Sx
set_option maxHeartbeats 4000000
set_option maxRecDepth 100000
set_option linter.unusedSimpArgs false
set_option linter.unusedVariables false
end Go.Proofs.YtbdacbcpniegiaaDoor
namespace Go.Proofs.YtbdacbcpniegiaaDoor
open Go Go.RowKit Go.Proofs Go.Sx
set_option maxHeartbeats 4000000
set_option maxRecDepth 100000
set_option linter.unusedSimpArgs false
set_option linter.unusedVariables false
structure Mk where
  t : Int
  s : List UInt8
  q : Int
  st : Int
  d : List UInt8
deriving DecidableEq, Inhabited
def Mk.cells (m : Mk) : List Value := [.int .i64 m.t, .string (B m.s), .int .u64 m.q, .int .i64 m.st, .string (B m.d)]
end Go.Proofs.YtbdacbcpniegiaaDoor
namespace Go.Proofs.YtbdacbcpniegiaaDoor
open Go Go.RowKit Go.Proofs Go.Sx
set_option maxHeartbeats 4000000
set_option maxRecDepth 100000
set_option linter.unusedSimpArgs false
set_option linter.unusedVariables false
end Go.Proofs.YtbdacbcpniegiaaDoor
namespace Go.Proofs.YtbdacbcpniegiaaDoor
open Go Go.RowKit Go.Proofs Go.Sx
set_option maxHeartbeats 4000000
set_option maxRecDepth 100000
set_option linter.unusedSimpArgs false
set_option linter.unusedVariables false
end Go.Proofs.YtbdacbcpniegiaaDoor
namespace Go.Proofs.YtbdacbcpniegiaaDoor
open Go Go.RowKit Go.Proofs Go.Sx
set_option maxHeartbeats 4000000
set_option maxRecDepth 100000
set_option linter.unusedSimpArgs false
set_option linter.unusedVariables false
end Go.Proofs.YtbdacbcpniegiaaDoor
namespace Go.Proofs.YtbdacbcpniegiaaDoor
open Go Go.RowKit Go.Proofs Go.Sx
set_option maxHeartbeats 4000000
set_option maxRecDepth 100000
set_option linter.unusedSimpArgs false
set_option linter.unusedVariables false
end Go.Proofs.YtbdacbcpniegiaaDoor
namespace Go.Proofs.YtbdacbcpniegiaaDoor.Q
open Go Go.RowKit Go.Proofs Go.Sx
set_option maxHeartbeats 4000000
set_option maxRecDepth 100000
set_option linter.unusedSimpArgs false
set_option linter.unusedVariables false
def isK (b : Int) (t : List UInt8) (m : Rs) : Bool := m.t == b && m.s == t
def isO (x m : Rs) : Bool := decide (0 < cmpKey m.t m.s x.t x.s)
end Go.Proofs.YtbdacbcpniegiaaDoor.Q
namespace Go.Proofs.YtbdacbcpniegiaaDoor.Q
open Go Go.RowKit Go.Proofs Go.Sx
set_option maxHeartbeats 4000000
set_option maxRecDepth 100000
set_option linter.unusedSimpArgs false
set_option linter.unusedVariables false
end Go.Proofs.YtbdacbcpniegiaaDoor.Q
namespace Go.Proofs.YtbdacbcpniegiaaDoor.Q
open Go Go.RowKit Go.Proofs Go.Sx
set_option maxHeartbeats 4000000
set_option maxRecDepth 100000
set_option linter.unusedSimpArgs false
set_option linter.unusedVariables false
end Go.Proofs.YtbdacbcpniegiaaDoor.Q
namespace Go.Proofs.YtbdacbcpniegiaaDoor.Q
open Go Go.RowKit Go.Proofs Go.Sx
set_option maxHeartbeats 4000000
set_option maxRecDepth 100000
set_option linter.unusedSimpArgs false
set_option linter.unusedVariables false
end Go.Proofs.YtbdacbcpniegiaaDoor.Q
namespace Go.Proofs.YtbdacbcpniegiaaDoor.Q
open Go Go.RowKit Go.Proofs Go.Sx
set_option maxHeartbeats 4000000
set_option maxRecDepth 100000
set_option linter.unusedSimpArgs false
set_option linter.unusedVariables false
end Go.Proofs.YtbdacbcpniegiaaDoor.Q
namespace Go.Proofs.YtbdacbcpniegiaaDoor.Q
open Go Go.RowKit Go.Proofs Go.Sx
set_option maxHeartbeats 4000000
set_option maxRecDepth 100000
set_option linter.unusedSimpArgs false
set_option linter.unusedVariables false
end Go.Proofs.YtbdacbcpniegiaaDoor.Q
namespace Go.Proofs.YtbdacbcpniegiaaDoor.Q
open Go Go.RowKit Go.Proofs Go.Sx
set_option maxHeartbeats 4000000
set_option maxRecDepth 100000
set_option linter.unusedSimpArgs false
set_option linter.unusedVariables false
def cutL (x : Rs) (ms : List Rs) : List Rs := ms.filter fun m => !isK x.t x.s m
def setL (ms : List Rs) (x : Rs) : List Rs := match (cutL x ms).findIdx? (isO x) with
  | some k => (cutL x ms).take k ++ x :: (cutL x ms).drop k
  | none => cutL x ms ++ [x]
end Go.Proofs.YtbdacbcpniegiaaDoor.Q
namespace Go.Sx
open Go Go.RowKit
set_option linter.unusedVariables false
set_option linter.unusedSimpArgs false
def PA (X : Ctx) (o1 o2 : Oper) (c : Cfg) (N : Cfg → Prop) : Prop :=
  ∀ (ops : Array Oper) (rest : List Oper) (M : Cfg → Prop), (∀ c', N c' → OX X ops rest c' M) → OX X ops (o1 :: o2 :: rest) c M
section
variable {X : Ctx} {c : Cfg} {N : Cfg → Prop} {d : Option Tmp} {ty ty1 : TypeId} {pos pos1 : String} {af af1 : Array Edge} {g : Option (Nat × Bool)}
theorem PA.nil {o1 o2 : Oper} {t : Tmp} (e sz : Nat) (hx : c.ev (.tmp t) = vv (.slice none 0 0)) (hl : ∃ s, c.env.lookup t = some s)
    (h : PA X o1 o2 { env := (t, .one (.c (.row c.loc.length))) :: c.env, loc := c.loc ++ [.row e sz 0 []] } N) : PA X o1 o2 c N := fun ops rest M hM Q hQ ρ σ a w hr => by
  refine h ops rest M hM Q hQ (ρ ++ [[]]) (σ ++ [Value.slice none 0 0]) a w ?_
  have h1 := hr.nilRow e sz
  refine ⟨fun t' s' he => ?_, h1.len, h1.lenS, h1.loc, h1.inj, h1.lt, h1.fresh, h1.low, h1.defers, h1.size, h1.one, h1.pin⟩
  simp only [List.lookup_cons] at he
  by_cases e : t' = t
  · subst e
    simp at he; subst he
    obtain ⟨s, hs⟩ := hl
    obtain ⟨v, hv, hd⟩ := hr.env t' s hs
    simp only [Cfg.ev, Cfg.get, hs, Option.getD_some] at hx
    subst hx
    obtain rfl : v = .slice none 0 0 := hd
    refine ⟨_, hv, ?_⟩
    show (σ ++ [_])[c.loc.length]? = _
    rw [← hr.lenS]; simp
  · have hb : (t' == t) = false := by simpa using e
    rw [hb] at he
    exact h1.env t' s' he
theorem PA.part {x0 x : Operand} {lo hi : Option Operand} {t e e' i j m sz n k by_ : Nat} {t1 : Tmp} {xs ys : List Value} {z : Value} {l h : Option Int} (news : List Value)
    (hx : c.ev x = .one (.c (.row j))) (hlo : optI c lo = some l) (hhi : optI c hi = some h) (hx0 : (c.put (some t1) (.one (.c .dead))).ev x0 = .one (.c (.row i)))
    (hi0 : c.loc[i]? = some (.row e sz n xs)) (hj0 : c.loc[j]? = some (.row e' sz m ys)) (ht : elemInf X.P t = some (e, sz, by_, z)) (hes : elemSz X.P t = some (e, sz))
    (h0 : 0 ≤ l.getD 0) (h1 : l.getD 0 ≤ h.getD m) (h2 : h.getD m ≤ m) (hk : k = (h.getD m).toNat - (l.getD 0).toNat) (hnw : news = (ys.drop ((l.getD 0).toNat * sz)).take (k * sz))
    (hone : ∀ u ∈ news, u.oneCell' = true) (h63 : n + k ≤ maxLen) (hby : (n + k) * by_ ≤ 140737488355328) (hd1 : dOk (some t1) X.nt = true)
    (hN : nxt X d N { (c.put (some t1) (.one (.c .dead))) with loc := c.loc.set i .gone ++ [.row e sz (n + k) (xs ++ news)] } (.one (.c (.row c.loc.length)))) :
    PA X ⟨some t1, .slice t x lo hi none, ty1, pos1, af1, none⟩ ⟨d, .call { callee := .builtin .append, args := #[x0, .tmp t1], argTypes := #[t, t] }, ty, pos, af, none⟩ c N := fun ops rest M hM Q hQ ρ σ a w hr => by
  have e1 := hr.ev x
  rw [hx] at e1
  have e1 : σ[j]? = some (a.eval x) := e1
  obtain ⟨hu, ti, hti, hz, hsz, hby', hzs, hs0⟩ := elemInf_spec ht
  obtain ⟨fq, hfq⟩ := hr.locAt hj0
  have hdj := hr.loc j _ fq _ hj0 hfq e1
  have hlb : BoundIs (lo.map a.eval) 0 (l.getD 0).toNat := optI_bound (n := 0) hr hlo (by simpa using h0)
  have hhb := optI_bound (n := m) hr hhi (by omega)
  have hsz' : ∀ w, (Go.sizeOf e).run X.P w = .ok sz w := by
    unfold elemSz at hes
    rw [hu] at hes
    cases hz2 : szOf X.P e with
    | none => simp [hz2] at hes
    | some r => simp [hz2] at hes; subst hes; exact sizeOf_run hz2
  have hyl : ys.length = m * sz := hdj.1.1
  obtain ⟨L, hL⟩ : ∃ L, L = (l.getD 0).toNat := ⟨_, rfl⟩
  obtain ⟨H, hH⟩ : ∃ H, H = (h.getD m).toNat := ⟨_, rfl⟩
  rw [← hL] at hlb hk hnw
  rw [← hH] at hhb hk
  have hLH : L ≤ H := by omega
  have hHm : H ≤ m := by omega
  have hnl : news.length = k * sz := by
    rw [hnw, List.length_take, List.length_drop, hyl, ← Nat.sub_mul]
    exact Nat.min_eq_left (Nat.mul_le_mul_right _ (by omega))
  have hget : ∀ q u, news[q]? = some u → ys[L * sz + q]? = some u := by
    intro q u hq
    rw [hnw, List.getElem?_take] at hq
    split at hq
    · rwa [List.getElem?_drop] at hq
    · cases hq
  obtain ⟨v1, hrun1, hv1⟩ : ∃ v1, (execOp a.eval ⟨some t1, .slice t x lo hi none, ty1, pos1, af1, none⟩).run X.P w = .ok (.value v1) w ∧
      ((v1 = .slice none 0 0 ∧ k = 0) ∨ ∃ ad cap, v1 = .slice (some ad) k cap ∧ ∀ q u, news[q]? = some u → w.cell? (ad.add q) = some u) := by
    rcases hdj.1.2 with ⟨e3, hm0⟩ | ⟨gg, cap, cur, e3, _, _, hnc, _⟩
    · subst hm0
      obtain rfl : L = 0 := by omega
      obtain rfl : H = 0 := by omega
      have hrun := run_sliceSl (P := X.P) w hu hsz' none 0 0 _ _ _ _ hlb hhb (Nat.le_refl _) (Nat.le_refl _)
      exact ⟨_, by simp only [execOp, e3, Option.map_none, Sem.run_bind]; rw [hrun]; rfl, .inl ⟨by simp, by omega⟩⟩
    · have hrun := run_sliceSl (P := X.P) w hu hsz' (some ⟨gg, 0, none⟩) m cap _ _ _ _ hlb hhb hLH (by omega)
      refine ⟨_, by simp only [execOp, e3, Option.map_none, Sem.run_bind]; rw [hrun]; rfl, .inr ?_⟩
      by_cases hc : cap = L
      · rw [if_pos hc]
        refine ⟨_, _, by rw [show H - L = k by omega], fun q u hq => ?_⟩
        have : q < news.length := (List.getElem?_eq_some_iff.1 hq).1
        rw [hnl, show k = 0 by omega] at this
        simp at this
      · rw [if_neg hc]
        refine ⟨_, _, by rw [show H - L = k by omega]; rfl, fun q u hq => ?_⟩
        have := hr.rowCell hj0 (by rw [e1, e3]) _ _ (hget q u hq)
        simp only [add_add] at this ⊢
        rw [← this]
        congr 2
        omega
  have hr1 := hr.put (d := some t1) (s := .one (.c .dead)) (v := v1) hd1 trivial
  have hr2 := hr.put (d := some t1) (s := vv v1) (v := v1) hd1 rfl
  have ey : (a.put (some t1) v1).eval (.tmp t1) = v1 := by
    have := hr2.ev (.tmp t1)
    rw [show (c.put (some t1) (vv v1)).ev (.tmp t1) = vv v1 by simp [Cfg.put, Cfg.ev, Cfg.get]] at this
    exact this
  have ex := hr1.ev x0
  rw [hx0] at ex
  have ex : σ[i]? = some ((a.put (some t1) v1).eval x0) := ex
  have hi1 : (c.put (some t1) (.one (.c .dead))).loc[i]? = some (.row e sz n xs) := hi0
  obtain ⟨fp, hfp⟩ := hr1.locAt hi1
  have hd := hr1.loc i _ fp _ hi1 hfp ex
  unfold wpList
  rw [if_pos (by simp [Region.wanted])]
  left
  unfold Oper.wp
  rw [hrun1]
  show wpList X.P ops Q (_ :: rest) (a.put (some t1) v1) w
  generalize a.put (some t1) v1 = a1 at hr1 ey ex hd
  have key : ∃ v' w', (Builtin.append_ #[t, t] ty #[a1.eval x0, v1]).run X.P w = .ok v' w' ∧ w'.ownsRow 0 e sz v' (n + k) (xs ++ news) ∧ w.grownBy w' (a1.eval x0).ownBlock ∧ (∀ k, v'.ownBlock = some k → (a1.eval x0).ownBlock = some k ∨ w.heap.size ≤ k) := by
    rcases hv1 with ⟨rfl, hk0⟩ | ⟨ad, cap, rfl, hc⟩
    · subst hk0
      obtain rfl : news = [] := by simpa using hnl
      have := append_cases (P := X.P) w 0 t ty e ti z sz by_ hu hti hz hsz hby' hzs hs0 (a1.eval x0) n xs hd.1 ⟨0, 0, none⟩ 0 0 [] (by simp) (by simp) (by simp) h63 hby (Nat.zero_le _)
      have hrun : (Builtin.append_ #[t, t] ty #[a1.eval x0, .slice (some ⟨0, 0, none⟩) 0 0]).run X.P w = (Builtin.append_ #[t, t] ty #[a1.eval x0, .slice none 0 0]).run X.P w := by
        have hl : ∀ (ad : Addr), (loadCells ad 0).run X.P w = .ok #[] w := fun ad => by simpa using run_loadCells_list (P := X.P) w ad [] (by simp)
        rcases hd.1.2 with ⟨e4, hn0⟩ | ⟨g4, c4, u4, e4, _, _, hn4, _⟩
        · rw [e4]; simp [Builtin.append_, run_underlying hu, Builtin.lenOf, Builtin.firstCells, sizeOf, typeInfo, hti, hl, storeCells]
        · rw [e4]; simp [Builtin.append_, run_underlying hu, Builtin.lenOf, Builtin.firstCells, sizeOf, typeInfo, hti, hn4, hl, storeCells]
      rw [hrun] at this
      exact this
    · exact append_cases (P := X.P) w 0 t ty e ti z sz by_ hu hti hz hsz hby' hzs hs0 (a1.eval x0) n xs hd.1 ad k cap news hnl hc hone h63 hby (Nat.zero_le _)
  obtain ⟨v', w', hrun, hown, hgr, hkk⟩ := key
  obtain ⟨ρ', hR⟩ := hr1.reRow hi1 ex hgr hown hkk
  unfold wpList
  rw [if_pos (by simp [Region.wanted])]
  left
  unfold Oper.wp
  have hrun2 : (execOp a1.eval ⟨d, .call { callee := .builtin .append, args := #[x0, .tmp t1], argTypes := #[t, t] }, ty, pos, af, none⟩).run X.P w = .ok (.value v') w' := by
    simp only [execOp, resolve, invoke, builtin, Sem.run_bind, Sem.run_pure, Result.andThen_ok, List.map_toArray, List.map_cons, List.map_nil, ey]
    rw [hrun]; rfl
  rw [hrun2]
  have hs2 : DV (σ ++ [v']) (.one (.c (.row c.loc.length))) v' := by
    show (σ ++ [v'])[c.loc.length]? = some v'
    have := hr1.lenS
    rw [show c.loc.length = σ.length from this.symm]; simp
  exact hM _ hN.2 Q hQ _ _ _ _ (hR.put hN.1 hs2)
end
end Go.Sx
namespace Go.Proofs.YtbdacbcpniegiaaDoor.Q
open Go Go.RowKit Go.Proofs Go.Sx
set_option maxHeartbeats 4000000
set_option maxRecDepth 100000
set_option linter.unusedSimpArgs false
set_option linter.unusedVariables false
end Go.Proofs.YtbdacbcpniegiaaDoor.Q
namespace Go.Proofs.YtbdacbcpniegiaaDoor
open Go Go.RowKit Go.Proofs Go.Sx
set_option maxHeartbeats 4000000
set_option maxRecDepth 100000
set_option linter.unusedSimpArgs false
set_option linter.unusedVariables false
end Go.Proofs.YtbdacbcpniegiaaDoor
namespace Go.Proofs.YtbdacbcpniegiaaDoor
open Go Go.RowKit Go.Proofs Go.Sx
set_option maxHeartbeats 8000000
set_option maxRecDepth 100000
set_option linter.unusedSimpArgs false
set_option linter.unusedVariables false
end Go.Proofs.YtbdacbcpniegiaaDoor
namespace Go.Proofs.YtbdacbcpniegiaaDoor
open Go Go.RowKit Go.Proofs Go.Sx
set_option maxHeartbeats 8000000
set_option maxRecDepth 100000
set_option linter.unusedSimpArgs false
set_option linter.unusedVariables false
end Go.Proofs.YtbdacbcpniegiaaDoor
namespace Go.Proofs.YtbdacbcpniegiaaDoor
open Go Go.RowKit Go.Proofs Go.Sx
set_option maxHeartbeats 8000000
set_option maxRecDepth 100000
set_option linter.unusedSimpArgs false
set_option linter.unusedVariables false
end Go.Proofs.YtbdacbcpniegiaaDoor
namespace Go.Proofs.YtbdacbcpniegiaaDoor.Q
open Go Go.RowKit Go.Proofs Go.Sx
set_option maxHeartbeats 4000000
set_option maxRecDepth 100000
set_option linter.unusedSimpArgs false
set_option linter.unusedVariables false
end Go.Proofs.YtbdacbcpniegiaaDoor.Q
namespace Go.Proofs.YtbdacbcpniegiaaDoor.Q
open Go Go.RowKit Go.Proofs Go.Sx
set_option maxHeartbeats 4000000
set_option maxRecDepth 100000
set_option linter.unusedSimpArgs false
set_option linter.unusedVariables false
end Go.Proofs.YtbdacbcpniegiaaDoor.Q
namespace Go.Proofs.YtbdacbcpniegiaaDoor.Q
open Go Go.RowKit Go.Proofs Go.Sx
set_option maxHeartbeats 4000000
set_option maxRecDepth 100000
set_option linter.unusedSimpArgs false
set_option linter.unusedVariables false
@[reducible] def r0 : Rs := ⟨2, [97], 3, false, [120]⟩
end Go.Proofs.YtbdacbcpniegiaaDoor.Q
namespace Go.Proofs.YtbdacbcpniegiaaDoor.Q
open Go Go.RowKit Go.Proofs Go.Sx
set_option maxHeartbeats 4000000
set_option maxRecDepth 100000
set_option linter.unusedSimpArgs false
set_option linter.unusedVariables false
end Go.Proofs.YtbdacbcpniegiaaDoor.Q
namespace Go.Proofs.YtbdacbcpniegiaaDoor.Q
open Go Go.RowKit Go.Proofs Go.Sx
set_option maxHeartbeats 4000000
set_option maxRecDepth 100000
set_option linter.unusedSimpArgs false
set_option linter.unusedVariables false
end Go.Proofs.YtbdacbcpniegiaaDoor.Q
namespace Go.Proofs.YtbdacbcpniegiaaDoor.Q
open Go Go.RowKit Go.Proofs Go.Sx
set_option maxHeartbeats 4000000
set_option maxRecDepth 100000
set_option linter.unusedSimpArgs false
set_option linter.unusedVariables false
end Go.Proofs.YtbdacbcpniegiaaDoor.Q
namespace Go.Proofs.YtbdacbcpniegiaaDoor.Q
open Go Go.RowKit Go.Proofs Go.Sx
set_option maxRecDepth 100000
set_option linter.unusedSimpArgs false
set_option linter.unusedVariables false
theorem ctr_calls {P : Program} {G : List (Addr × Value)} {f : FuncId} {args : List SV} {R : List LO → SV → Prop} (h : Ctr P G f [] args R) (w : World) (hG : ∀ p ∈ G, w.cell? p.1 = some p.2 ∧ loneStr w p) {vals : List Value} (ha : All2 (DV []) args vals) :
    Calls P f vals.toArray w fun e w' => ∃ v os' s σ', e = .returned v ∧ R os' s ∧ DV σ' s v ∧ Below w.heap.size w w' := by
  have hr : Rel ⟨P, w, [], 0, []⟩ ⟨[], []⟩ [] [] { tmps := #[], defers := [] } w :=
    ⟨fun t s h => by simp at h, rfl, rfl, fun i o fp v h => by simp at h, by simp, fun b h => by simp at h, fun b h => by simp at h, Fr.refl _ _, rfl, rfl, fun v h => by simp at h, fun i v h => by simp at h⟩
  refine (h ⟨P, w, [], 0, []⟩ rfl (fun p hp => ⟨(hG p hp).1, by simp, (hG p hp).2⟩) (fun c s => ∃ os', c = ⟨[], os'⟩ ∧ R os' s) (fun os' s hR => ⟨os', rfl, hR⟩) _ _ _ _ hr vals ha).mono ?_
  rintro e w' ⟨v, c', ρ', σ', s, rfl, hr', hd, os', rfl, hR⟩
  exact ⟨v, os', s, σ', rfl, hR, hd, hr'.low.below (by simp)⟩
end Go.Proofs.YtbdacbcpniegiaaDoor.Q
namespace Go.Proofs.YtbdacbcpniegiaaDoor.Q
open Go Go.RowKit Go.Proofs Go.Sx
set_option maxRecDepth 100000
set_option linter.unusedSimpArgs false
set_option linter.unusedVariables false
theorem status_any (n : Nat) (hn : n < 256) (q : Nat) (hq : q < 18446744073709551616) (ok : Bool) (d : List UInt8) (hl : d.length ≤ 9223372036854775807) (w : World) {e : EA} (he : e.Ok) (hG : ∀ p ∈ GE e, w.cell? p.1 = some p.2 ∧ loneStr w p) :
    Calls Tryd.prog 3 #[.int .u8 n, .int .u64 q, .bool ok, .string (B d)] w fun x w' => x = .returned (.bool true) ∧ Below w.heap.size w w' := by
  refine (ctr_calls (status_ctr he n q hn hq ok d hl) w hG (vals := [.int .u8 n, .int .u64 q, .bool ok, .string (B d)]) ⟨rfl, rfl, rfl, rfl, trivial⟩).mono ?_
  rintro x w' ⟨v, os', s, σ', rfl, ⟨rfl, rfl⟩, hd, hb⟩
  have hd : v = .bool true := hd
  subst hd
  exact ⟨rfl, hb⟩
end Go.Proofs.YtbdacbcpniegiaaDoor.Q
