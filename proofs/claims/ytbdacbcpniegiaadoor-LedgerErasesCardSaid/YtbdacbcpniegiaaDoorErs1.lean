/- The tied card of LedgerErases: for every input the law returns true, and each argument reads behind the call as it read before. Conditions: the two tables of Go's library that the row lists are as the program's text lays them. -/
import Derived.Test.YtbdacbcpniegiaaDoorBase6
import Derived.WalkKit
import Derived.ProofKit
import Derived.OpenShut
import Derived.ChangeSame
import Derived.Below
import Derived.Test.YtbdacbcpniegiaaDoorTie
import Derived.Test.YtbdacbcpniegiaaDoorCards
import Derived.LaidMore
import Derived.Lay
import Derived.SevenTiedAt
import Derived.Stop.Joined
namespace Go.Proofs.YtbdacbcpniegiaaDoor
open Go Go.RowKit Go.ChangeShapes Go.WideShapes Go.ChangeAt
theorem post_of_below {H : Type} {enc : TypeId × Value → H} {P : Program} {f : Func} {s : ChangeSpec} {apart fresh handsOn again : Bool} {W W' : World} {args : Array Value} {v : Value} {ds gs : List (DataW H)} {before pa pv : List MemPlace}
    (hW : DataW.Whole enc P f.params.toList s.vars apart W args.toList ds gs before)
    (hres : ∀ (b : Nat) (sp : Nat → Bool) (hd : Bool), DataW.TrodAll enc P W' b sp hd f.resultTypes.toList (v.resultList f.resultTypes.size) (s.fn H (ds ++ gs)).results [])
    (hargs : ∀ sp : Nat → Bool, (∀ p ∈ before, sp p.block = true) → DataW.TrodAll enc P W' 0 sp true f.params.toList args.toList (s.fn H (ds ++ gs)).args pa)
    (hvars : ∀ sp : Nat → Bool, (∀ p ∈ before, sp p.block = true) → DataW.TrodVars enc P W' sp s.vars (s.fn H (ds ++ gs)).vars pv)
    (hps : before = pa ++ pv) (hb : Below W.heap.size W W')
    (hok : ∀ (j : Nat) (t : TypeId) (r : Value), f.resultTypes[j]? = some t → (v.resultList f.resultTypes.size)[j]? = some r → Value.okWide P W' .any 0 t r) :
    s.post enc P f apart fresh handsOn again W args v W' := by
  have hk : W.keptBut W' (· ∈ before) := hb.frame _
  have hold : ∀ p ∈ before, (fun b => decide (b < W.heap.size)) p.block = true := fun p hp => by simpa using hW.lt p hp
  have hlt := hW.lt
  refine ⟨ds, gs, before, [], pa, pv, hW, hres _ _ _, hargs _ hold, hvars _ hold, World.keptBut_mono (fun p hp => ⟨hp, ?_⟩) hk, fun _ => ?_⟩
  · rw [hps, List.mem_append] at hp
    exact Or.inr hp
  · obtain ⟨_, _, _, _, _, hz, hn⟩ := hW
    refine ⟨hok, _, _, ([] ++ pa) ++ pv, ⟨[] ++ pa, pv, trodAll_append (hargs _ (fun _ _ => rfl)) (hres _ _ _), hvars _ (fun _ _ => rfl), rfl, ?_, ?_⟩, ?_⟩
    · intro b off hp
      have hp' : MemPlace.cell b off ∈ before := by rw [hps]; simpa using hp
      rw [hb.frozen (p := ⟨b, off, none⟩) (hlt _ hp')]
      exact hz b off hp'
    · intro ha
      have := hn ha
      rw [hps] at this
      simpa using this
    · intro p hp _
      rw [hps]
      simpa using hp
theorem u8_of {n : Int} (h : (Lit.int .u8 n).wf = true) : 0 ≤ n ∧ n < 256 := by
  simp only [Lit.wf, Bool.and_eq_true, decide_eq_true_eq] at h
  have e1 : IntKind.u8.min = 0 := rfl
  have e2 : IntKind.u8.max = 255 := rfl
  omega
end Go.Proofs.YtbdacbcpniegiaaDoor
namespace Go.Proofs.YtbdacbcpniegiaaDoor
open Go Go.RowKit Go.Proofs Go.Sx
set_option maxHeartbeats 4000000
set_option maxRecDepth 100000
set_option linter.unusedSimpArgs false
set_option linter.unusedVariables false
theorem ers_any (a b c : Nat) (ha : a < 256) (hb0 : b < 256) (hc : c < 256) (w : World) : Calls Tryd.prog 9 #[.int .u8 a, .int .u8 b, .int .u8 c] w fun e w' => e = .returned (.bool true) ∧ Below w.heap.size w w' := by
  have a1 : IntKind.i64.wrap ((a : Int).tmod 10) = ((a % 10 : Nat) : Int) := by rw [show (10 : Int) = ((10 : Nat) : Int) from rfl, tmodN, wI64 (by omega) (by omega)]
  obtain ⟨n, hn⟩ : ∃ n, n = 1 + a % 10 := ⟨_, rfl⟩
  have a2 : IntKind.i64.wrap (1 + ((a % 10 : Nat) : Int)) = (n : Int) := by rw [wI64 (by omega) (by omega)]; omega
  have a3 : IntKind.i64.wrap (b : Int) = (b : Int) := wI64 (by omega) (by omega)
  have a4 : IntKind.i64.wrap ((n : Int) + 1) = ((n + 1 : Nat) : Int) := by rw [wI64 (by omega) (by omega)]; rfl
  obtain ⟨m, hm⟩ : ∃ m, m = b % (n + 1) := ⟨_, rfl⟩
  have hmn : m < n + 1 := by rw [hm]; exact Nat.mod_lt _ (by omega)
  have a5 : (b : Int).tmod ((n + 1 : Nat) : Int) = (m : Int) := by rw [tmodN, hm]
  have a6 : IntKind.u64.wrap (m : Int) = (m : Int) := wU64 (by omega) (by omega)
  obtain ⟨e, he⟩ : ∃ e, e = c % 20 := ⟨_, rfl⟩
  have a7 : (c : Int).tmod 20 = (e : Int) := by rw [show (20 : Int) = ((20 : Nat) : Int) from rfl, tmodN, he]
  have a8 : IntKind.u64.wrap (e : Int) = (e : Int) := wU64 (by omega) (by omega)
  have a9 : IntKind.i64.wrap (e : Int) = (e : Int) := wI64 (by omega) (by omega)
  obtain ⟨eT, hT0⟩ : ∃ eT, noteL (rng n) 2 [107] m true [] = (tkn n m, eT) := ⟨_, rfl⟩
  have iT := (rng_inv n (by omega)).note_to hT0
  obtain ⟨h1, h2⟩ := ers_ok n (by omega) m hmn e (by omega)
  obtain ⟨mB, hB⟩ : ∃ mB, beginL (tkn n m) 2 [107] (e : Int) = (mB, wantE n e) := ⟨_, by rw [← h1]⟩
  rw [hB] at h2
  have iB := iT.begin_to hB
  obtain ⟨mE, hE⟩ : ∃ mE, eraseL mB = mE := ⟨_, rfl⟩
  have iE : Inv mE := hE ▸ iB.erase
  have hl : (mE.length : Int) = (m : Int) := by rw [← hE, h2]
  have hst := star_bad mE
  have w1 : (e : Int) = 0 → wantE n e = 1 := fun h => by simp [wantE, show e = 0 by omega]
  have w2 : (e : Int) ≠ 0 → (e : Int) ≤ (n : Int) → wantE n e = 6 := fun h h' => by simp [wantE, show e ≠ 0 by omega, show e ≤ n by omega]
  have w3 : (e : Int) ≠ 0 → (n : Int) < (e : Int) → wantE n e = 0 := fun h h' => by simp [wantE, show e ≠ 0 by omega, show ¬ e ≤ n by omega]
  have hn10 : n ≤ 10 := by omega
  have hm64 : m < 18446744073709551616 := by omega
  have iR := rng_inv n hn10
  clear ha hb0 hc h1 h2
  refine calls_pureK (args := [.int .u8 a, .int .u8 b, .int .u8 c]) w Tryd.func9 rfl Tryd.ntmps9 (by simp) ?_
  intro X K hX hK
  have hnt : X.nt = 83 := by rw [hX]
  have hwi : X.wi = w := by rw [hX]
  have hP : X.P = Tryd.prog := by rw [hX]
  have hown : X.own = [] := by rw [hX]
  have hbl : X.base.length = 0 := by rw [hX]; rfl
  clear hX
  have hT : calleeOk X.P 26 = true ∧ calleeOk X.P 27 = true ∧ X.P.underlying 47 = some (TypeDesc.pointer 148) ∧ fieldsOf X.P 26 = some [(0, 1), (1, 1)] ∧ zeroCells X.P 26 = some [(Value.int IntKind.i64 0), (Value.string { data := #[] })] ∧ szOf X.P 26 = some 2 ∧ X.P.underlying 5 = some (TypeDesc.int IntKind.u8) ∧ X.P.underlying 3 = some (TypeDesc.int IntKind.i64) ∧ isBytesT X.P 5 = false ∧ isStrT X.P 3 = false ∧ aggOf X.P 26 = some true ∧ X.P.underlying 22 = some (TypeDesc.int IntKind.u64) ∧ isBytesT X.P 3 = false ∧ isStrT X.P 22 = false ∧ calleeOk X.P 28 = true ∧ fieldsOf X.P 30 = some [(0, 2), (2, 1), (3, 1), (4, 1)] ∧ zeroCells X.P 30 = some [(Value.int IntKind.i64 0), (Value.string { data := #[] }), (Value.int IntKind.u64 0), (Value.bool false), (Value.string { data := #[] })] ∧ calleeOk X.P 29 = true ∧ calleeOk X.P 34 = true ∧ calleeOk X.P 31 = true ∧ X.P.underlying 59 = some (TypeDesc.slice 62) := by rw [hP]; exact ⟨Ty.co26, Ty.co27, Tryd.underlying47, Ty.fs26, Ty.ze26, Ty.sz26, Tryd.underlying5, Tryd.underlying3, Ty.ib5, Ty.is3, Ty.ag26, Tryd.underlying22, Ty.ib3, Ty.is22, Ty.co28, Ty.fs30, Ty.ze30, Ty.co29, Ty.co34, Ty.co31, Tryd.underlying59⟩
  repeat' (first
    | (refine exitAt hi hb ?_; clear hi hb; rintro rfl)
    | (refine SX.seqK ?_; intro N hN)
    | ((first | (refine SX.ops ?_)); simp only [WS, JA, JB, wI64, wU64, Int.reduceAdd, Int.reduceSub, Int.reduceMul, Int.reduceLE, Int.reduceLT, Int.reduceNeg, Int.reduceToNat, Int.cast_ofNat_Int, sx0, sx1, sx2, sx3, sx4, sx5, sx6, sx7, sy0, sy1, List.filterMap_cons, JC, JD, WT, JE, JF, JG, JH, JI, JJ, JK, WU, JL, JM, JN, JO, WV, JP, JQ, WW, JR, JS, JT, JU, JV, JW, JX, JY, JZ, WA, WB, WC, WD, WE, WF, WG, WH, WI, WJ, WK, WL, WM, WN, true_and, and_true, reduceCtorEq, ↓reduceIte, ↓bifT, ↓bifF, ↓gifT, ↓gifF, eq_self, WO, WP, WQ, Nat.reduceLT, Nat.reduceLeDiff, Nat.reduceAdd, Nat.reduceSub, Nat.reduceMul, Nat.reduceMod, WR, Nat.reduceBEq, Int.reduceBEq, Int.reduceBNe, BEq.rfl, hnt, hT, a1, a2, a3, a4, a5, a6, a7, a8, a9, hl])
    | ((first | refine SX.skip ?_ | refine SX.exit ?_ | refine SX.label ?_); try simp only [WS, JA, JB, wI64, wU64, Int.reduceAdd, Int.reduceSub, Int.reduceMul, Int.reduceLE, Int.reduceLT, Int.reduceNeg, Int.reduceToNat, Int.cast_ofNat_Int, sx0, sx1, sx2, sx3, sx4, sx5, sx6, sx7, sy0, sy1, List.filterMap_cons, JC, JD, WT, JE, JF, JG, JH, JI, JJ, JK, WU, JL, JM, JN, JO, WV, JP, JQ, WW, JR, JS, JT, JU, JV, JW, JX, JY, JZ, WA, WB, WC, WD, WE, WF, WG, WH, WI, WJ, WK, WL, WM, WN, true_and, and_true, reduceCtorEq, ↓reduceIte, ↓bifT, ↓bifF, ↓gifT, ↓gifF, eq_self, WO, WP, WQ, Nat.reduceLT, Nat.reduceLeDiff, Nat.reduceAdd, Nat.reduceSub, Nat.reduceMul, Nat.reduceMod, WR, Nat.reduceBEq, Int.reduceBEq, Int.reduceBNe, BEq.rfl])
    | (refine SX.cond rfl (fun hb => ?_) (fun hb => ?_) <;> ((first | cases hb | (simp only [decide_eq_true_eq, decide_eq_false_iff_not, beq_iff_eq, beq_eq_false_iff_ne, bne_iff_ne, Bool.and_eq_true, Bool.or_eq_true, Bool.not_eq_true', Bool.not_eq_false', Bool.and_eq_false_iff, Bool.or_eq_false_iff, Int.not_lt, Int.not_le] at hb) | skip) <;> (first | (exfalso; omega) | skip)))
    | (refine SX.ret ?_; try simp only [WS, JA, JB, wI64, wU64, Int.reduceAdd, Int.reduceSub, Int.reduceMul, Int.reduceLE, Int.reduceLT, Int.reduceNeg, Int.reduceToNat, Int.cast_ofNat_Int, sx0, sx1, sx2, sx3, sx4, sx5, sx6, sx7, sy0, sy1, List.filterMap_cons, JC, JD, WT, JE, JF, JG, JH, JI, JJ, JK, WU, JL, JM, JN, JO, WV, JP, JQ, WW, JR, JS, JT, JU, JV, JW, JX, JY, JZ, WA, WB, WC, WD, WE, WF, WG, WH, WI, WJ, WK, WL, WM, WN, true_and, and_true, reduceCtorEq, ↓reduceIte, ↓bifT, ↓bifF, ↓gifT, ↓gifF, eq_self, WO, WP, WQ, Nat.reduceLT, Nat.reduceLeDiff, Nat.reduceAdd, Nat.reduceSub, Nat.reduceMul, Nat.reduceMod, WR, Nat.reduceBEq, Int.reduceBEq, Int.reduceBNe, BEq.rfl])
    | (refine hN _ ?_; clear hN N)
    | (refine hK _ _ (Fin.res rfl hown ?_); simp only [WS, JA, JB, wI64, wU64, Int.reduceAdd, Int.reduceSub, Int.reduceMul, Int.reduceLE, Int.reduceLT, Int.reduceNeg, Int.reduceToNat, Int.cast_ofNat_Int, sx0, sx1, sx2, sx3, sx4, sx5, sx6, sx7, sy0, sy1, List.filterMap_cons, JC, JD, WT, JE, JF, JG, JH, JI, JJ, JK, WU, JL, JM, JN, JO, WV, JP, JQ, WW, JR, JS, JT, JU, JV, JW, JX, JY, JZ, WA, WB, WC, WD, WE, WF, WG, WH, WI, WJ, WK, WL, WM, WN, true_and, and_true, reduceCtorEq, ↓reduceIte, ↓bifT, ↓bifF, ↓gifT, ↓gifF, eq_self, WO, WP, WQ, Nat.reduceLT, Nat.reduceLeDiff, Nat.reduceAdd, Nat.reduceSub, Nat.reduceMul, Nat.reduceMod, WR, Nat.reduceBEq, Int.reduceBEq, Int.reduceBNe, BEq.rfl, f_a, f_b, f_n, f_c, f_B, f_v, f_g, f_0, f_1, f_2, hT, hwi, a1, a2, a3, a4, a5, a6, a7, a8, a9, hl]; intro w' hbel; refine Done.out ?_)
    | (clear hN N; first | (refine hN _ ?_; clear hN N) | (clear hN N; first | (refine hN _ ?_; clear hN N) | (clear hN N; first | (refine hN _ ?_; clear hN N) | (clear hN N; first | (refine hN _ ?_; clear hN N) | (clear hN N; first | (refine hN _ ?_; clear hN N) | (refine hN _ ?_; clear hN N))))))
    | (refine bif2.mk (fun hb => ?_) (fun hb => ?_) <;> (try simp only [hb, WS, JA, JB, wI64, wU64, Int.reduceAdd, Int.reduceSub, Int.reduceMul, Int.reduceLE, Int.reduceLT, Int.reduceNeg, Int.reduceToNat, Int.cast_ofNat_Int, sx0, sx1, sx2, sx3, sx4, sx5, sx6, sx7, sy0, sy1, List.filterMap_cons, JC, JD, WT, JE, JF, JG, JH, JI, JJ, JK, WU, JL, JM, JN, JO, WV, JP, JQ, WW, JR, JS, JT, JU, JV, JW, JX, JY, JZ, WA, WB, WC, WD, WE, WF, WG, WH, WI, WJ, WK, WL, WM, WN, true_and, and_true, reduceCtorEq, ↓reduceIte, ↓bifT, ↓bifF, ↓gifT, ↓gifF, eq_self, WO, WP, WQ, Nat.reduceLT, Nat.reduceLeDiff, Nat.reduceAdd, Nat.reduceSub, Nat.reduceMul, Nat.reduceMod, WR, Nat.reduceBEq, Int.reduceBEq, Int.reduceBNe, BEq.rfl, hnt, hT, a1, a2, a3, a4, a5, a6, a7, a8, a9, hl]) <;> ((first | cases hb | (simp only [decide_eq_true_eq, decide_eq_false_iff_not, beq_iff_eq, beq_eq_false_iff_ne, bne_iff_ne, Bool.and_eq_true, Bool.or_eq_true, Bool.not_eq_true', Bool.not_eq_false', Bool.and_eq_false_iff, Bool.or_eq_false_iff, Int.not_lt, Int.not_le] at hb) | skip) <;> (first | (exfalso; omega) | skip)))
    | ((first | (refine CallVC.pv hP (ex13_any) rfl ?_) | (refine CallQ.pv hP (ex13_any) rfl ?_) | (refine Ctr.use (new_to (m := rng 0) rfl) hP ?_ [] ?_ rfl rfl ?_; (focus (intro p hp; cases hp)); (focus (refine LeR.of rfl trivial ?_ ?_ ?_ ?_ ?_ <;> first | decide | (simp only [WS, JA, JB, wI64, wU64, Int.reduceAdd, Int.reduceSub, Int.reduceMul, Int.reduceLE, Int.reduceLT, Int.reduceNeg, Int.reduceToNat, Int.cast_ofNat_Int, sx0, sx1, sx2, sx3, sx4, sx5, sx6, sx7, sy0, sy1, List.filterMap_cons, JC, JD, WT, JE, JF, JG, JH, JI, JJ, JK, WU, JL, JM, JN, JO, WV, JP, JQ, WW, JR, JS, JT, JU, JV, JW, JX, JY, JZ, WA, WB, WC, WD, WE, WF, WG, WH, WI, WJ, WK, WL, WM, WN, true_and, and_true, reduceCtorEq, ↓reduceIte, ↓bifT, ↓bifF, ↓gifT, ↓gifF, eq_self, WO, WP, WQ, Nat.reduceLT, Nat.reduceLeDiff, Nat.reduceAdd, Nat.reduceSub, Nat.reduceMul, Nat.reduceMod, WR, Nat.reduceBEq, Int.reduceBEq, Int.reduceBNe, BEq.rfl, List.getD_cons_zero, List.getD_cons_succ, or_false, false_or, or_self, or_true, true_or, decide_true]; done))); intro os' s hR; obtain ⟨rfl, rfl⟩ := hR) | (refine Ctr.use (beginW_to (rng_inv i (by omega)) (by decide) (rng_ok i (by omega)) (by rw [wU64 (by omega) (by omega)])) hP ?_ [0,1] ?_ rfl rfl ?_; (focus (intro p hp; cases hp)); (focus (refine LeR.of rfl trivial ?_ ?_ ?_ ?_ ?_ <;> first | decide | (simp only [WS, JA, JB, wI64, wU64, Int.reduceAdd, Int.reduceSub, Int.reduceMul, Int.reduceLE, Int.reduceLT, Int.reduceNeg, Int.reduceToNat, Int.cast_ofNat_Int, sx0, sx1, sx2, sx3, sx4, sx5, sx6, sx7, sy0, sy1, List.filterMap_cons, JC, JD, WT, JE, JF, JG, JH, JI, JJ, JK, WU, JL, JM, JN, JO, WV, JP, JQ, WW, JR, JS, JT, JU, JV, JW, JX, JY, JZ, WA, WB, WC, WD, WE, WF, WG, WH, WI, WJ, WK, WL, WM, WN, true_and, and_true, reduceCtorEq, ↓reduceIte, ↓bifT, ↓bifF, ↓gifT, ↓gifF, eq_self, WO, WP, WQ, Nat.reduceLT, Nat.reduceLeDiff, Nat.reduceAdd, Nat.reduceSub, Nat.reduceMul, Nat.reduceMod, WR, Nat.reduceBEq, Int.reduceBEq, Int.reduceBNe, BEq.rfl, List.getD_cons_zero, List.getD_cons_succ, or_false, false_or, or_self, or_true, true_or, decide_true]; done))); intro os' s hR; obtain ⟨rfl, rfl⟩ := hR) | (refine Ctr.use (note_to iR (by decide) hm64 hT0 rfl) hP ?_ [0,1] ?_ rfl rfl ?_; (focus (intro p hp; cases hp)); (focus (refine LeR.of rfl trivial ?_ ?_ ?_ ?_ ?_ <;> first | decide | (simp only [WS, JA, JB, wI64, wU64, Int.reduceAdd, Int.reduceSub, Int.reduceMul, Int.reduceLE, Int.reduceLT, Int.reduceNeg, Int.reduceToNat, Int.cast_ofNat_Int, sx0, sx1, sx2, sx3, sx4, sx5, sx6, sx7, sy0, sy1, List.filterMap_cons, JC, JD, WT, JE, JF, JG, JH, JI, JJ, JK, WU, JL, JM, JN, JO, WV, JP, JQ, WW, JR, JS, JT, JU, JV, JW, JX, JY, JZ, WA, WB, WC, WD, WE, WF, WG, WH, WI, WJ, WK, WL, WM, WN, true_and, and_true, reduceCtorEq, ↓reduceIte, ↓bifT, ↓bifF, ↓gifT, ↓gifF, eq_self, WO, WP, WQ, Nat.reduceLT, Nat.reduceLeDiff, Nat.reduceAdd, Nat.reduceSub, Nat.reduceMul, Nat.reduceMod, WR, Nat.reduceBEq, Int.reduceBEq, Int.reduceBNe, BEq.rfl, List.getD_cons_zero, List.getD_cons_succ, or_false, false_or, or_self, or_true, true_or, decide_true]; done))); intro os' s hR; obtain ⟨rfl, rfl⟩ := hR) | (refine Ctr.use (begin_to iT (by decide) hB) hP ?_ [0,3] ?_ rfl rfl ?_; (focus (intro p hp; cases hp)); (focus (refine LeR.of rfl trivial ?_ ?_ ?_ ?_ ?_ <;> first | decide | (simp only [WS, JA, JB, wI64, wU64, Int.reduceAdd, Int.reduceSub, Int.reduceMul, Int.reduceLE, Int.reduceLT, Int.reduceNeg, Int.reduceToNat, Int.cast_ofNat_Int, sx0, sx1, sx2, sx3, sx4, sx5, sx6, sx7, sy0, sy1, List.filterMap_cons, JC, JD, WT, JE, JF, JG, JH, JI, JJ, JK, WU, JL, JM, JN, JO, WV, JP, JQ, WW, JR, JS, JT, JU, JV, JW, JX, JY, JZ, WA, WB, WC, WD, WE, WF, WG, WH, WI, WJ, WK, WL, WM, WN, true_and, and_true, reduceCtorEq, ↓reduceIte, ↓bifT, ↓bifF, ↓gifT, ↓gifF, eq_self, WO, WP, WQ, Nat.reduceLT, Nat.reduceLeDiff, Nat.reduceAdd, Nat.reduceSub, Nat.reduceMul, Nat.reduceMod, WR, Nat.reduceBEq, Int.reduceBEq, Int.reduceBNe, BEq.rfl, List.getD_cons_zero, List.getD_cons_succ, or_false, false_or, or_self, or_true, true_or, decide_true]; done))); intro os' s hR; obtain ⟨rfl, rfl⟩ := hR) | (refine Ctr.use (erase_to iB hE) hP ?_ [0,4] ?_ rfl rfl ?_; (focus (intro p hp; cases hp)); (focus (refine LeR.of rfl trivial ?_ ?_ ?_ ?_ ?_ <;> first | decide | (simp only [WS, JA, JB, wI64, wU64, Int.reduceAdd, Int.reduceSub, Int.reduceMul, Int.reduceLE, Int.reduceLT, Int.reduceNeg, Int.reduceToNat, Int.cast_ofNat_Int, sx0, sx1, sx2, sx3, sx4, sx5, sx6, sx7, sy0, sy1, List.filterMap_cons, JC, JD, WT, JE, JF, JG, JH, JI, JJ, JK, WU, JL, JM, JN, JO, WV, JP, JQ, WW, JR, JS, JT, JU, JV, JW, JX, JY, JZ, WA, WB, WC, WD, WE, WF, WG, WH, WI, WJ, WK, WL, WM, WN, true_and, and_true, reduceCtorEq, ↓reduceIte, ↓bifT, ↓bifF, ↓gifT, ↓gifF, eq_self, WO, WP, WQ, Nat.reduceLT, Nat.reduceLeDiff, Nat.reduceAdd, Nat.reduceSub, Nat.reduceMul, Nat.reduceMod, WR, Nat.reduceBEq, Int.reduceBEq, Int.reduceBNe, BEq.rfl, List.getD_cons_zero, List.getD_cons_succ, or_false, false_or, or_self, or_true, true_or, decide_true]; done))); intro os' s hR; obtain ⟨rfl, rfl⟩ := hR) | (refine Ctr.use (marks_any mE iE) hP ?_ [0,5] ?_ rfl rfl ?_; (focus (intro p hp; cases hp)); (focus (refine LeR.of rfl trivial ?_ ?_ ?_ ?_ ?_ <;> first | decide | (simp only [WS, JA, JB, wI64, wU64, Int.reduceAdd, Int.reduceSub, Int.reduceMul, Int.reduceLE, Int.reduceLT, Int.reduceNeg, Int.reduceToNat, Int.cast_ofNat_Int, sx0, sx1, sx2, sx3, sx4, sx5, sx6, sx7, sy0, sy1, List.filterMap_cons, JC, JD, WT, JE, JF, JG, JH, JI, JJ, JK, WU, JL, JM, JN, JO, WV, JP, JQ, WW, JR, JS, JT, JU, JV, JW, JX, JY, JZ, WA, WB, WC, WD, WE, WF, WG, WH, WI, WJ, WK, WL, WM, WN, true_and, and_true, reduceCtorEq, ↓reduceIte, ↓bifT, ↓bifF, ↓gifT, ↓gifF, eq_self, WO, WP, WQ, Nat.reduceLT, Nat.reduceLeDiff, Nat.reduceAdd, Nat.reduceSub, Nat.reduceMul, Nat.reduceMod, WR, Nat.reduceBEq, Int.reduceBEq, Int.reduceBNe, BEq.rfl, List.getD_cons_zero, List.getD_cons_succ, or_false, false_or, or_self, or_true, true_or, decide_true]; done))); intro os' s hR; obtain ⟨rfl, rfl⟩ := hR) | (refine Ctr.use (begin_to iE (by decide) hst) hP ?_ [0,5] ?_ rfl rfl ?_; (focus (intro p hp; cases hp)); (focus (refine LeR.of rfl trivial ?_ ?_ ?_ ?_ ?_ <;> first | decide | (simp only [WS, JA, JB, wI64, wU64, Int.reduceAdd, Int.reduceSub, Int.reduceMul, Int.reduceLE, Int.reduceLT, Int.reduceNeg, Int.reduceToNat, Int.cast_ofNat_Int, sx0, sx1, sx2, sx3, sx4, sx5, sx6, sx7, sy0, sy1, List.filterMap_cons, JC, JD, WT, JE, JF, JG, JH, JI, JJ, JK, WU, JL, JM, JN, JO, WV, JP, JQ, WW, JR, JS, JT, JU, JV, JW, JX, JY, JZ, WA, WB, WC, WD, WE, WF, WG, WH, WI, WJ, WK, WL, WM, WN, true_and, and_true, reduceCtorEq, ↓reduceIte, ↓bifT, ↓bifF, ↓gifT, ↓gifF, eq_self, WO, WP, WQ, Nat.reduceLT, Nat.reduceLeDiff, Nat.reduceAdd, Nat.reduceSub, Nat.reduceMul, Nat.reduceMod, WR, Nat.reduceBEq, Int.reduceBEq, Int.reduceBNe, BEq.rfl, List.getD_cons_zero, List.getD_cons_succ, or_false, false_or, or_self, or_true, true_or, decide_true]; done))); intro os' s hR; obtain ⟨rfl, rfl⟩ := hR) | (refine VO.ptrNil rfl rfl (by rw [hP]; exact Tryd.underlying47) ?_)); simp only [WS, JA, JB, wI64, wU64, Int.reduceAdd, Int.reduceSub, Int.reduceMul, Int.reduceLE, Int.reduceLT, Int.reduceNeg, Int.reduceToNat, Int.cast_ofNat_Int, sx0, sx1, sx2, sx3, sx4, sx5, sx6, sx7, sy0, sy1, List.filterMap_cons, JC, JD, WT, JE, JF, JG, JH, JI, JJ, JK, WU, JL, JM, JN, JO, WV, JP, JQ, WW, JR, JS, JT, JU, JV, JW, JX, JY, JZ, WA, WB, WC, WD, WE, WF, WG, WH, WI, WJ, WK, WL, WM, WN, true_and, and_true, reduceCtorEq, ↓reduceIte, ↓bifT, ↓bifF, ↓gifT, ↓gifF, eq_self, WO, WP, WQ, Nat.reduceLT, Nat.reduceLeDiff, Nat.reduceAdd, Nat.reduceSub, Nat.reduceMul, Nat.reduceMod, WR, Nat.reduceBEq, Int.reduceBEq, Int.reduceBNe, BEq.rfl, hnt, hT, a1, a2, a3, a4, a5, a6, a7, a8, a9, hl])
    | (refine SX.loop (ι := { i : Nat // i ≤ n }) (fun i => ⟨[(0, vv (.int .u8 a)), (1, vv (.int .u8 b)), (2, vv (.int .u8 c)), (7, vv (.bool true)), (8, .one (.c (.loc 0 0))), (9, .one (.c (.loc 2 0))), (10, vv (.int .i64 n)), (11, vv (.int .i64 ((i.1 + 1 : Nat) : Int)))], [.cells [.row 1] 148, mrow (rng i.1), .cells [.v (.int .i64 2), .v (.string (B [107]))] 26]⟩) (fun i => n - i.1) ⟨0, Nat.zero_le _⟩ ⟨[0, 1, 2], (LeR.of (by rw [hbl]; decide) (by simp only [WS, JA, JB, wI64, wU64, Int.reduceAdd, Int.reduceSub, Int.reduceMul, Int.reduceLE, Int.reduceLT, Int.reduceNeg, Int.reduceToNat, Int.cast_ofNat_Int, sx0, sx1, sx2, sx3, sx4, sx5, sx6, sx7, sy0, sy1, List.filterMap_cons, JC, JD, WT, JE, JF, JG, JH, JI, JJ, JK, WU, JL, JM, JN, JO, WV, JP, JQ, WW, JR, JS, JT, JU, JV, JW, JX, JY, JZ, WA, WB, WC, WD, WE, WF, WG, WH, WI, WJ, WK, WL, WM, WN, true_and, and_true, reduceCtorEq, ↓reduceIte, ↓bifT, ↓bifF, ↓gifT, ↓gifF, eq_self, WO, WP, WQ, Nat.reduceLT, Nat.reduceLeDiff, Nat.reduceAdd, Nat.reduceSub, Nat.reduceMul, Nat.reduceMod, WR, Nat.reduceBEq, Int.reduceBEq, Int.reduceBNe, BEq.rfl, List.getD_cons_zero, List.getD_cons_succ, or_false, false_or, or_self, or_true, true_or, decide_true]; try (rfl)) (by simp only [WS, JA, JB, wI64, wU64, Int.reduceAdd, Int.reduceSub, Int.reduceMul, Int.reduceLE, Int.reduceLT, Int.reduceNeg, Int.reduceToNat, Int.cast_ofNat_Int, sx0, sx1, sx2, sx3, sx4, sx5, sx6, sx7, sy0, sy1, List.filterMap_cons, JC, JD, WT, JE, JF, JG, JH, JI, JJ, JK, WU, JL, JM, JN, JO, WV, JP, JQ, WW, JR, JS, JT, JU, JV, JW, JX, JY, JZ, WA, WB, WC, WD, WE, WF, WG, WH, WI, WJ, WK, WL, WM, WN, true_and, and_true, reduceCtorEq, ↓reduceIte, ↓bifT, ↓bifF, ↓gifT, ↓gifF, eq_self, WO, WP, WQ, Nat.reduceLT, Nat.reduceLeDiff, Nat.reduceAdd, Nat.reduceSub, Nat.reduceMul, Nat.reduceMod, WR, Nat.reduceBEq, Int.reduceBEq, Int.reduceBNe, BEq.rfl, List.getD_cons_zero, List.getD_cons_succ, or_false, false_or, or_self, or_true, true_or, decide_true]; try (rfl)) (by decide) (by simp only [WS, JA, JB, wI64, wU64, Int.reduceAdd, Int.reduceSub, Int.reduceMul, Int.reduceLE, Int.reduceLT, Int.reduceNeg, Int.reduceToNat, Int.cast_ofNat_Int, sx0, sx1, sx2, sx3, sx4, sx5, sx6, sx7, sy0, sy1, List.filterMap_cons, JC, JD, WT, JE, JF, JG, JH, JI, JJ, JK, WU, JL, JM, JN, JO, WV, JP, JQ, WW, JR, JS, JT, JU, JV, JW, JX, JY, JZ, WA, WB, WC, WD, WE, WF, WG, WH, WI, WJ, WK, WL, WM, WN, true_and, and_true, reduceCtorEq, ↓reduceIte, ↓bifT, ↓bifF, ↓gifT, ↓gifF, eq_self, WO, WP, WQ, Nat.reduceLT, Nat.reduceLeDiff, Nat.reduceAdd, Nat.reduceSub, Nat.reduceMul, Nat.reduceMod, WR, Nat.reduceBEq, Int.reduceBEq, Int.reduceBNe, BEq.rfl, List.getD_cons_zero, List.getD_cons_succ, or_false, false_or, or_self, or_true, true_or, decide_true]) (by simp only [WS, JA, JB, wI64, wU64, Int.reduceAdd, Int.reduceSub, Int.reduceMul, Int.reduceLE, Int.reduceLT, Int.reduceNeg, Int.reduceToNat, Int.cast_ofNat_Int, sx0, sx1, sx2, sx3, sx4, sx5, sx6, sx7, sy0, sy1, List.filterMap_cons, JC, JD, WT, JE, JF, JG, JH, JI, JJ, JK, WU, JL, JM, JN, JO, WV, JP, JQ, WW, JR, JS, JT, JU, JV, JW, JX, JY, JZ, WA, WB, WC, WD, WE, WF, WG, WH, WI, WJ, WK, WL, WM, WN, true_and, and_true, reduceCtorEq, ↓reduceIte, ↓bifT, ↓bifF, ↓gifT, ↓gifF, eq_self, WO, WP, WQ, Nat.reduceLT, Nat.reduceLeDiff, Nat.reduceAdd, Nat.reduceSub, Nat.reduceMul, Nat.reduceMod, WR, Nat.reduceBEq, Int.reduceBEq, Int.reduceBNe, BEq.rfl, List.getD_cons_zero, List.getD_cons_succ, or_false, false_or, or_self, or_true, true_or, decide_true]) (by simp only [WS, JA, JB, wI64, wU64, Int.reduceAdd, Int.reduceSub, Int.reduceMul, Int.reduceLE, Int.reduceLT, Int.reduceNeg, Int.reduceToNat, Int.cast_ofNat_Int, sx0, sx1, sx2, sx3, sx4, sx5, sx6, sx7, sy0, sy1, List.filterMap_cons, JC, JD, WT, JE, JF, JG, JH, JI, JJ, JK, WU, JL, JM, JN, JO, WV, JP, JQ, WW, JR, JS, JT, JU, JV, JW, JX, JY, JZ, WA, WB, WC, WD, WE, WF, WG, WH, WI, WJ, WK, WL, WM, WN, true_and, and_true, reduceCtorEq, ↓reduceIte, ↓bifT, ↓bifF, ↓gifT, ↓gifF, eq_self, WO, WP, WQ, Nat.reduceLT, Nat.reduceLeDiff, Nat.reduceAdd, Nat.reduceSub, Nat.reduceMul, Nat.reduceMod, WR, Nat.reduceBEq, Int.reduceBEq, Int.reduceBNe, BEq.rfl, List.getD_cons_zero, List.getD_cons_succ, or_false, false_or, or_self, or_true, true_or, decide_true]))⟩ ?_ <;> rintro ⟨i, hi⟩ <;> simp only [] at hi ⊢)
    | (refine SX.block ?_)
    | (refine and_mk ?_ ?_; (focus first | decide | omega | rfl | assumption | (simp only [List.length_append, List.length_cons, List.length_nil, B_size]; omega) | (simp; done)))
    | (refine And.intro ?_ ?_))
  all_goals (try refine Done.mk ?_)
  · refine ⟨⟨i + 1, by omega⟩, [0, 3, 2], (LeR.of (by rw [hbl]; decide) (by simp only [WS, JA, JB, wI64, wU64, Int.reduceAdd, Int.reduceSub, Int.reduceMul, Int.reduceLE, Int.reduceLT, Int.reduceNeg, Int.reduceToNat, Int.cast_ofNat_Int, sx0, sx1, sx2, sx3, sx4, sx5, sx6, sx7, sy0, sy1, List.filterMap_cons, JC, JD, WT, JE, JF, JG, JH, JI, JJ, JK, WU, JL, JM, JN, JO, WV, JP, JQ, WW, JR, JS, JT, JU, JV, JW, JX, JY, JZ, WA, WB, WC, WD, WE, WF, WG, WH, WI, WJ, WK, WL, WM, WN, true_and, and_true, reduceCtorEq, ↓reduceIte, ↓bifT, ↓bifF, ↓gifT, ↓gifF, eq_self, WO, WP, WQ, Nat.reduceLT, Nat.reduceLeDiff, Nat.reduceAdd, Nat.reduceSub, Nat.reduceMul, Nat.reduceMod, WR, Nat.reduceBEq, Int.reduceBEq, Int.reduceBNe, BEq.rfl, List.getD_cons_zero, List.getD_cons_succ, or_false, false_or, or_self, or_true, true_or, decide_true]; try (first | (rw [wI64 (by omega) (by omega)]; rfl) | rfl)) (by simp only [WS, JA, JB, wI64, wU64, Int.reduceAdd, Int.reduceSub, Int.reduceMul, Int.reduceLE, Int.reduceLT, Int.reduceNeg, Int.reduceToNat, Int.cast_ofNat_Int, sx0, sx1, sx2, sx3, sx4, sx5, sx6, sx7, sy0, sy1, List.filterMap_cons, JC, JD, WT, JE, JF, JG, JH, JI, JJ, JK, WU, JL, JM, JN, JO, WV, JP, JQ, WW, JR, JS, JT, JU, JV, JW, JX, JY, JZ, WA, WB, WC, WD, WE, WF, WG, WH, WI, WJ, WK, WL, WM, WN, true_and, and_true, reduceCtorEq, ↓reduceIte, ↓bifT, ↓bifF, ↓gifT, ↓gifF, eq_self, WO, WP, WQ, Nat.reduceLT, Nat.reduceLeDiff, Nat.reduceAdd, Nat.reduceSub, Nat.reduceMul, Nat.reduceMod, WR, Nat.reduceBEq, Int.reduceBEq, Int.reduceBNe, BEq.rfl, List.getD_cons_zero, List.getD_cons_succ, or_false, false_or, or_self, or_true, true_or, decide_true]; try (first | (rw [wI64 (by omega) (by omega)]; rfl) | rfl)) (by decide) (by simp only [WS, JA, JB, wI64, wU64, Int.reduceAdd, Int.reduceSub, Int.reduceMul, Int.reduceLE, Int.reduceLT, Int.reduceNeg, Int.reduceToNat, Int.cast_ofNat_Int, sx0, sx1, sx2, sx3, sx4, sx5, sx6, sx7, sy0, sy1, List.filterMap_cons, JC, JD, WT, JE, JF, JG, JH, JI, JJ, JK, WU, JL, JM, JN, JO, WV, JP, JQ, WW, JR, JS, JT, JU, JV, JW, JX, JY, JZ, WA, WB, WC, WD, WE, WF, WG, WH, WI, WJ, WK, WL, WM, WN, true_and, and_true, reduceCtorEq, ↓reduceIte, ↓bifT, ↓bifF, ↓gifT, ↓gifF, eq_self, WO, WP, WQ, Nat.reduceLT, Nat.reduceLeDiff, Nat.reduceAdd, Nat.reduceSub, Nat.reduceMul, Nat.reduceMod, WR, Nat.reduceBEq, Int.reduceBEq, Int.reduceBNe, BEq.rfl, List.getD_cons_zero, List.getD_cons_succ, or_false, false_or, or_self, or_true, true_or, decide_true]) (by simp only [WS, JA, JB, wI64, wU64, Int.reduceAdd, Int.reduceSub, Int.reduceMul, Int.reduceLE, Int.reduceLT, Int.reduceNeg, Int.reduceToNat, Int.cast_ofNat_Int, sx0, sx1, sx2, sx3, sx4, sx5, sx6, sx7, sy0, sy1, List.filterMap_cons, JC, JD, WT, JE, JF, JG, JH, JI, JJ, JK, WU, JL, JM, JN, JO, WV, JP, JQ, WW, JR, JS, JT, JU, JV, JW, JX, JY, JZ, WA, WB, WC, WD, WE, WF, WG, WH, WI, WJ, WK, WL, WM, WN, true_and, and_true, reduceCtorEq, ↓reduceIte, ↓bifT, ↓bifF, ↓gifT, ↓gifF, eq_self, WO, WP, WQ, Nat.reduceLT, Nat.reduceLeDiff, Nat.reduceAdd, Nat.reduceSub, Nat.reduceMul, Nat.reduceMod, WR, Nat.reduceBEq, Int.reduceBEq, Int.reduceBNe, BEq.rfl, List.getD_cons_zero, List.getD_cons_succ, or_false, false_or, or_self, or_true, true_or, decide_true]) (by simp only [WS, JA, JB, wI64, wU64, Int.reduceAdd, Int.reduceSub, Int.reduceMul, Int.reduceLE, Int.reduceLT, Int.reduceNeg, Int.reduceToNat, Int.cast_ofNat_Int, sx0, sx1, sx2, sx3, sx4, sx5, sx6, sx7, sy0, sy1, List.filterMap_cons, JC, JD, WT, JE, JF, JG, JH, JI, JJ, JK, WU, JL, JM, JN, JO, WV, JP, JQ, WW, JR, JS, JT, JU, JV, JW, JX, JY, JZ, WA, WB, WC, WD, WE, WF, WG, WH, WI, WJ, WK, WL, WM, WN, true_and, and_true, reduceCtorEq, ↓reduceIte, ↓bifT, ↓bifF, ↓gifT, ↓gifF, eq_self, WO, WP, WQ, Nat.reduceLT, Nat.reduceLeDiff, Nat.reduceAdd, Nat.reduceSub, Nat.reduceMul, Nat.reduceMod, WR, Nat.reduceBEq, Int.reduceBEq, Int.reduceBNe, BEq.rfl, List.getD_cons_zero, List.getD_cons_succ, or_false, false_or, or_self, or_true, true_or, decide_true])), by show n - (i + 1) < n - i; omega⟩
  all_goals first | exact hbel | exact ⟨rfl, hbel⟩ | (exfalso; clear hK hT; simp_all; done) | trace_state
end Go.Proofs.YtbdacbcpniegiaaDoor
namespace Go.Proofs.YtbdacbcpniegiaaDoor
open Go Go.ChangeShapes Go.WideShapes Go.ChangeAt Go.RowKit
set_option maxRecDepth 100000
theorem ersOwn : ownKnob Tryd.prog.godebug = none := by kernel_rfl
theorem ersLifted (os : Os) (started : os.Started) (H : Type) (enc : TypeId × Value → H) :
    ReturnsInHanded {} Tryd.checked os 9 .any (fun w args => (Rows.ledgerErasesSpec.pre enc Tryd.prog Tryd.f9 Rows.ledgerErasesRow.domain false w args ∧ laidMetH Tryd.prog Rows.ledgerErasesRow.laid w) ∧ sizedMet enc Tryd.prog Tryd.f9 (OpenSpec.ofChange Rows.ledgerErasesSpec) false w args)
      (Rows.ledgerErasesSpec.post enc Tryd.prog Tryd.f9 false true false false) := by
  refine returnsInHanded_of_change_and (C := Tryd.checked) (X := fun w _ => laidMetH Tryd.prog Rows.ledgerErasesRow.laid w) (fun _ _ _ hh h => h.of_heap hh) ersOwn started (by kernel_rfl) Tryd.func9
    (ChangeSpec.witness_shaped (enc := enc) (C := Tryd.checked) (os := os) (X := fun w _ => laidMetH Tryd.prog Rows.ledgerErasesRow.laid w) false (World.laidAll Tryd.prog os Rows.ledgerErasesRow.laid) #[.int .u8 0, .int .u8 0, .int .u8 0] 8 (World.laidAll_os _ _ _)
      (World.shaped_of_ZipB (by kernel_rfl) (by kernel_rfl)) (by kernel_rfl) (by kernel_rfl) (by kernel_rfl)
      (by rw [MakeChecks.laidMetH_plain _ _ _ (by kernel_rfl)]; exact laidMet_laidAll _ (by kernel_rfl) (by kernel_rfl))) ?_
  intro W base args ds gs before hval0 hW hc _ hL _
  have hval : ∀ (j : Nat) t v, Tryd.f9.params[j]? = some t → args[j]? = some v → Value.okWide Tryd.prog W .any base t v := hval0
  have hW' := hW
  obtain ⟨p, q, hA0, hV, rfl, _, _⟩ := hW
  have hA : DataW.TrodAll enc Tryd.prog W 0 (fun _ => true) true Tryd.f9.params.toList args.toList ds p := hA0
  rw [Tryd.params9] at hA hval
  obtain ⟨v0, vs0, d0, ds0, p0, q0, hargs, rfl, rfl, h0, r0⟩ := trodAll_cons hA
  obtain ⟨v1, vs1, d1, ds1, p1, q1, rfl, rfl, rfl, h1, r1⟩ := trodAll_cons r0
  obtain ⟨v2, vs2, d2, ds2, p2, q2, rfl, rfl, rfl, h2, r2⟩ := trodAll_cons r1
  obtain ⟨rfl, rfl, rfl⟩ := trodAll_nil r2
  obtain rfl : args = #[v0, v1, v2] := by cases args; simp_all
  obtain ⟨rfl, rfl⟩ := trodVars_none hV
  obtain ⟨x0, rfl, rfl, rfl, w0⟩ := open_int Tryd.underlying5 (hval 0 5 v0 rfl rfl) h0
  obtain ⟨x1, rfl, rfl, rfl, w1⟩ := open_int Tryd.underlying5 (hval 1 5 v1 rfl rfl) h1
  obtain ⟨x2, rfl, rfl, rfl, w2⟩ := open_int Tryd.underlying5 (hval 2 5 v2 rfl rfl) h2
  simp only [List.append_nil] at hW'
  have b0 := u8_of w0
  have b1 := u8_of w1
  have b2 := u8_of w2
  obtain ⟨a, rfl⟩ : ∃ a : Nat, x0 = a := ⟨x0.toNat, by omega⟩
  obtain ⟨b, rfl⟩ : ∃ b : Nat, x1 = b := ⟨x1.toNat, by omega⟩
  obtain ⟨c, rfl⟩ : ∃ c : Nat, x2 = c := ⟨x2.toNat, by omega⟩
  refine (ers_any a b c (by omega) (by omega) (by omega) W).mono fun e W' ⟨he, hb⟩ => ?_
  subst he
  exact ⟨_, rfl, post_of_below (pa := []) (pv := []) hW' (fun _ _ _ => trodAll_cons_mk (shut_bool Tryd.underlying4 _) trodAll_mk0) (fun sp _ => trodAll_cons_mk (shut_int Tryd.underlying5 w0) (trodAll_cons_mk (shut_int Tryd.underlying5 w1) (trodAll_cons_mk (shut_int Tryd.underlying5 w2) trodAll_mk0))) (fun _ _ => rfl) rfl hb (ok_one (by kernel_rfl) rfl (okWide_bool_mk Tryd.underlying4 _))⟩
theorem ersSaid : Rows.LedgerErasesSaid :=
  OpenClaim.holds_of_wide 9 Tryd.f9 rfl rfl rfl rfl rfl rfl rfl ⟨rfl, rfl, rfl, rfl, rfl⟩ rfl rfl rfl rfl rfl (by kernel_rfl) Tryd.func9 (by kernel_rfl)
    (of_decide_eq_true (by kernel_rfl)) (by unfold Func.isWrapper; first | (rw [if_pos (by decide +kernel)]; kernel_rfl) | (rw [if_neg (by decide +kernel)]; exact ⟨rfl, rfl⟩))
    (fun os started H enc _ => ersLifted os started H enc)
theorem ersPlain (f : FuncId) (fn : Func) (hf : Tryd.pinned.checked.prog.funcNamed "noria/norialaw13.LedgerErases" = some f) (hfn : Tryd.pinned.checked.prog.funcs[f]? = some fn) :
    true = Tryd.pinned.checked.prog.looks [] ∧ ∀ (j : Nat) t, fn.params[j]? = some t → Tryd.pinned.checked.prog.wantsStandIn t = false := by
  obtain rfl : f = 9 := Option.some.inj ((show Tryd.prog.funcNamed "noria/norialaw13.LedgerErases" = some 9 by kernel_rfl).symm.trans hf) |>.symm
  obtain rfl : fn = Tryd.f9 := (Option.some.inj (Tryd.func9.symm.trans hfn)).symm
  refine ⟨by kernel_rfl, fun j t ht => ?_⟩
  rw [Tryd.params9] at ht
  have hm : t ∈ [5, 5, 5] := by simpa using Array.mem_of_getElem? ht
  have hall : ([5, 5, 5].all fun u => !Tryd.prog.wantsStandIn u) = true := by kernel_rfl
  exact (show Tryd.prog.wantsStandIn t = false by simpa using List.all_eq_true.1 hall t hm)
theorem ersCard : Rows.LedgerErasesCardSaid :=
  Claim7.holds_tied_plain_at .later [] _ _ _ _ ersSaid (fun _ h => by cases h) (by kernel_rfl) (fun _ h => by cases h) ledgerErases_row_tie rfl ⟨rfl, rfl⟩ (by kernel_rfl) rfl ersPlain (by kernel_rfl)
#print axioms ersCard
end Go.Proofs.YtbdacbcpniegiaaDoor
