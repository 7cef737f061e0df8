/- The tied card of LedgerRoom: for every input the law returns true, and each argument reads behind the call as it read before. Conditions: the two tables of Go's library that the row lists are as the program's text lays them. -/
import Derived.Test.YtbdacbcpniegiaaDoorBase5
import Derived.WalkKit
import Derived.ProofKit
import Derived.OpenShut
import Derived.ChangeSame
import Derived.Below
import Derived.Test.YtbdacbcpniegiaaDoorTie
import Derived.Test.YtbdacbcpniegiaaDoorCards
import Derived.LaidMore
import Derived.Lay
import Derived.SevenTiedAt
import Derived.Stop.Joined
namespace Go.Proofs.YtbdacbcpniegiaaDoor
open Go Go.RowKit Go.ChangeShapes Go.WideShapes Go.ChangeAt
theorem post_of_below {H : Type} {enc : TypeId × Value → H} {P : Program} {f : Func} {s : ChangeSpec} {apart fresh handsOn again : Bool} {W W' : World} {args : Array Value} {v : Value} {ds gs : List (DataW H)} {before pa pv : List MemPlace}
    (hW : DataW.Whole enc P f.params.toList s.vars apart W args.toList ds gs before)
    (hres : ∀ (b : Nat) (sp : Nat → Bool) (hd : Bool), DataW.TrodAll enc P W' b sp hd f.resultTypes.toList (v.resultList f.resultTypes.size) (s.fn H (ds ++ gs)).results [])
    (hargs : ∀ sp : Nat → Bool, (∀ p ∈ before, sp p.block = true) → DataW.TrodAll enc P W' 0 sp true f.params.toList args.toList (s.fn H (ds ++ gs)).args pa)
    (hvars : ∀ sp : Nat → Bool, (∀ p ∈ before, sp p.block = true) → DataW.TrodVars enc P W' sp s.vars (s.fn H (ds ++ gs)).vars pv)
    (hps : before = pa ++ pv) (hb : Below W.heap.size W W')
    (hok : ∀ (j : Nat) (t : TypeId) (r : Value), f.resultTypes[j]? = some t → (v.resultList f.resultTypes.size)[j]? = some r → Value.okWide P W' .any 0 t r) :
    s.post enc P f apart fresh handsOn again W args v W' := by
  have hk : W.keptBut W' (· ∈ before) := hb.frame _
  have hold : ∀ p ∈ before, (fun b => decide (b < W.heap.size)) p.block = true := fun p hp => by simpa using hW.lt p hp
  have hlt := hW.lt
  refine ⟨ds, gs, before, [], pa, pv, hW, hres _ _ _, hargs _ hold, hvars _ hold, World.keptBut_mono (fun p hp => ⟨hp, ?_⟩) hk, fun _ => ?_⟩
  · rw [hps, List.mem_append] at hp
    exact Or.inr hp
  · obtain ⟨_, _, _, _, _, hz, hn⟩ := hW
    refine ⟨hok, _, _, ([] ++ pa) ++ pv, ⟨[] ++ pa, pv, trodAll_append (hargs _ (fun _ _ => rfl)) (hres _ _ _), hvars _ (fun _ _ => rfl), rfl, ?_, ?_⟩, ?_⟩
    · intro b off hp
      have hp' : MemPlace.cell b off ∈ before := by rw [hps]; simpa using hp
      rw [hb.frozen (p := ⟨b, off, none⟩) (hlt _ hp')]
      exact hz b off hp'
    · intro ha
      have := hn ha
      rw [hps] at this
      simpa using this
    · intro p hp _
      rw [hps]
      simpa using hp
theorem u8_of {n : Int} (h : (Lit.int .u8 n).wf = true) : 0 ≤ n ∧ n < 256 := by
  simp only [Lit.wf, Bool.and_eq_true, decide_eq_true_eq] at h
  have e1 : IntKind.u8.min = 0 := rfl
  have e2 : IntKind.u8.max = 255 := rfl
  omega
end Go.Proofs.YtbdacbcpniegiaaDoor
namespace Go.Sx
open Go Go.RowKit
set_option linter.unusedVariables false
set_option linter.unusedSimpArgs false
section
variable {X : Ctx} {c : Cfg} {N : Cfg → Prop} {d : Option Tmp} {ty : TypeId} {pos : String} {af : Array Edge} {g : Option (Nat × Bool)}
theorem PO.slString {src dst e t n : Nat} {x : Operand} {j : Nat} {l : List SC} (bs : List UInt8) (hx : c.ev x = .one (.c (.sl j 0 n n))) (hj : c.loc[j]? = some (.cells l t)) (hl : l = (bcells bs).map SC.v) (hn : n = bs.length)
    (hs : X.P.underlying src = some (.slice e)) (he : X.P.underlying e = some (.int .u8)) (hd : X.P.underlying dst = some .string) :
    PO X ⟨d, .convert src dst x, ty, pos, af, g⟩ c (vv (.string (B bs))) := fun ρ σ a w hr => by
  subst hl
  have ex := hr.ev x
  rw [hx] at ex
  obtain ⟨b, hb, ex⟩ := ex
  obtain ⟨hw, -⟩ := hr.plainAt hj hb
  refine ⟨_, ?_, rfl⟩
  simp only [execOp, ex, Sem.run_bind, hn]
  rw [run_convert_bytes_back w src dst e ⟨b, 0, none⟩ _ bs hs he hd (fun i hi => by
    by_cases e0 : i = 0
    · subst e0
      simp only [World.cell?, Addr.add, hw]
      simp [bcells, hi, hw]
    · simp only [World.cell?, Addr.add, if_neg e0, hw]
      simp [bcells, hi, hw])]
  rfl
theorem VO.slString {src dst e t n : Nat} {x : Operand} {j : Nat} {l : List SC} (bs : List UInt8) (hx : c.ev x = .one (.c (.sl j 0 n n))) (hj : c.loc[j]? = some (.cells l t)) (hl : l = (bcells bs).map SC.v) (hn : n = bs.length)
    (hs : X.P.underlying src = some (.slice e)) (he : X.P.underlying e = some (.int .u8)) (hd : X.P.underlying dst = some .string) (h : nxt X d N c (vv (.string (B bs)))) :
    VO X ⟨d, .convert src dst x, ty, pos, af, g⟩ c N := .of_po (PO.slString bs hx hj hl hn hs he hd) h
end
end Go.Sx
namespace Go.Proofs.YtbdacbcpniegiaaDoor
open Go Go.RowKit Go.Proofs Go.Sx
set_option maxHeartbeats 4000000
set_option maxRecDepth 100000
set_option linter.unusedSimpArgs false
set_option linter.unusedVariables false
theorem nm3_cells (j : Nat) (h : j ≤ 1033) : [SC.v (.int .u8 (IntKind.u8.wrap (IntKind.i64.wrap (97 + (j : Int).tmod 26)))), SC.v (.int .u8 (IntKind.u8.wrap (IntKind.i64.wrap (97 + (IntKind.i64.wrap ((j : Int).tdiv 26)).tmod 26)))), SC.v (.int .u8 (IntKind.u8.wrap (IntKind.i64.wrap (97 + IntKind.i64.wrap ((j : Int).tdiv 676)))))] = (bcells (nm3 j)).map SC.v := by
  have d1 : (j : Int).tdiv 26 = ((j / 26 : Nat) : Int) := rfl
  have d2 : (j : Int).tdiv 676 = ((j / 676 : Nat) : Int) := rfl
  have r1 : (j : Int).tmod 26 = ((j % 26 : Nat) : Int) := rfl
  have w1 : IntKind.i64.wrap ((j / 26 : Nat) : Int) = ((j / 26 : Nat) : Int) := wI64 (by omega) (by omega)
  have w2 : IntKind.i64.wrap ((j / 676 : Nat) : Int) = ((j / 676 : Nat) : Int) := wI64 (by omega) (by omega)
  have r2 : ((j / 26 : Nat) : Int).tmod 26 = ((j / 26 % 26 : Nat) : Int) := rfl
  have u : ∀ k : Nat, k ≤ 122 - 97 → IntKind.u8.wrap (IntKind.i64.wrap (97 + (k : Int))) = (((UInt8.ofNat (97 + k)).toNat : Nat) : Int) := fun k hk => by
    rw [wI64 (by omega) (by omega), IntKind.wrap_u8]
    simp only [UInt8.toNat_ofNat']
    omega
  rw [d1, d2, r1, w1, w2, r2, u _ (by omega), u _ (by omega), u _ (by omega)]
  rfl
def roomN (ms : List Mk) (i : Nat) : List Mk := (beginL ms ((1 + (i + 1) % 5 : Nat) : Int) (nm3 (i + 1)) ((i + 1 : Nat) : Int)).1
theorem Room.next {ms : List Mk} {i : Nat} (h : Room ms i) (hi : i < 1033) : Room (roomN ms i) (i + 1) := by
  obtain ⟨m, e, hR⟩ := h.begin hi
  unfold roomN
  rw [e]; exact hR
theorem room_begin {ms : List Mk} {i : Nat} (h : Room ms i) (hi : i < 1033) {ti qi : Int} (hti : ti = ((1 + (i + 1) % 5 : Nat) : Int)) (hqi : qi = ((i + 1 : Nat) : Int)) : Ctr Tryd.prog [] 28 [.cells [.row 1] 148, mrow ms] [.one (.c (.loc 0 0)), .one (.agg [.v (.int .i64 ti), .v (.string (B (nm3 (i + 1))))]), vv (.int .u64 qi)]
    (fun os v => os = [.cells [.row 2] 148, .gone, mrow (roomN ms i)] ∧ v = vv (.int .i64 0)) := by
  subst hti hqi
  obtain ⟨m, e, hR⟩ := h.begin hi
  have e2 : roomN ms i = m := by unfold roomN; rw [e]
  rw [e2]
  exact begin_to h.inv (by simp [nm3]) e
theorem rm5 {i : Nat} (h : i < 1033) : IntKind.i64.wrap (1 + ((i + 1 : Nat) : Int).tmod 5) = ((1 + (i + 1) % 5 : Nat) : Int) := by
  have : ((i + 1 : Nat) : Int).tmod 5 = (((i + 1) % 5 : Nat) : Int) := rfl
  rw [this, wI64 (by omega) (by omega)]; omega
theorem exitAt2 {p : Prop} {n i : Nat} (hi : i ≤ n) (hb : (n : Int) ≤ (i : Int)) (h : n = i → p) : p := h (by omega)
theorem room_any (a : Nat) (ha : a < 256) (w : World) : Calls Tryd.prog 6 #[.int .u8 a] w fun e w' => e = .returned (.bool true) ∧ Below w.heap.size w w' := by
  have a1 : IntKind.i64.wrap ((a : Int).tmod 10) = ((a % 10 : Nat) : Int) := by rw [show (10 : Int) = ((10 : Nat) : Int) from rfl, tmodN, wI64 (by omega) (by omega)]
  obtain ⟨n, hn⟩ : ∃ n, n = 1024 + a % 10 := ⟨_, rfl⟩
  have a2 : IntKind.i64.wrap (1024 + ((a % 10 : Nat) : Int)) = (n : Int) := by rw [wI64 (by omega) (by omega)]; omega
  have a3 : IntKind.i64.wrap (1 + ((a % 10 : Nat) : Int)) = ((n - 1023 : Nat) : Int) := by rw [wI64 (by omega) (by omega)]; omega
  have a4 : IntKind.u64.wrap ((n - 1023 : Nat) : Int) = ((n - 1023 : Nat) : Int) := wU64 (by omega) (by omega)
  have hn1 : 1024 ≤ n := by omega
  have hn2 : n ≤ 1033 := by omega
  clear ha
  refine calls_pureK (args := [.int .u8 a]) w Tryd.func6 rfl Tryd.ntmps6 (by simp) ?_
  intro X K hX hK
  have hnt : X.nt = 81 := by rw [hX]
  have hwi : X.wi = w := by rw [hX]
  have hP : X.P = Tryd.prog := by rw [hX]
  have hown : X.own = [] := by rw [hX]
  have hbl : X.base.length = 0 := by rw [hX]; rfl
  clear hX
  have hT : calleeOk X.P 26 = true ∧ calleeOk X.P 27 = true ∧ X.P.underlying 47 = some (TypeDesc.pointer 148) ∧ X.P.underlying 5 = some (TypeDesc.int IntKind.u8) ∧ X.P.underlying 3 = some (TypeDesc.int IntKind.i64) ∧ isBytesT X.P 5 = false ∧ isStrT X.P 3 = false ∧ isBytesT X.P 3 = false ∧ isStrT X.P 5 = false ∧ elemSz X.P 58 = some (5, 1) ∧ zeroCells X.P 5 = some [(Value.int IntKind.u8 0)] ∧ X.P.underlying 58 = some (TypeDesc.slice 5) ∧ X.P.underlying 9 = some TypeDesc.string ∧ isBytesT X.P 58 = true ∧ isStrT X.P 9 = true ∧ fieldsOf X.P 26 = some [(0, 1), (1, 1)] ∧ zeroCells X.P 26 = some [(Value.int IntKind.i64 0), (Value.string { data := #[] })] ∧ szOf X.P 26 = some 2 ∧ aggOf X.P 26 = some true ∧ X.P.underlying 22 = some (TypeDesc.int IntKind.u64) ∧ isStrT X.P 22 = false ∧ calleeOk X.P 28 = true ∧ calleeOk X.P 31 = true ∧ X.P.underlying 59 = some (TypeDesc.slice 62) ∧ elemSz X.P 59 = some (62, 5) ∧ fieldOff X.P 62 1 = some 2 ∧ aggOf X.P 22 = some false ∧ szOf X.P 22 = some 1 := by rw [hP]; exact ⟨Ty.co26, Ty.co27, Tryd.underlying47, Tryd.underlying5, Tryd.underlying3, Ty.ib5, Ty.is3, Ty.ib3, Ty.is5, Ty.el58, Ty.ze5, Tryd.underlying58, Tryd.underlying9, Ty.ib58, Ty.is9, Ty.fs26, Ty.ze26, Ty.sz26, Ty.ag26, Tryd.underlying22, Ty.is22, Ty.co28, Ty.co31, Tryd.underlying59, Ty.el59, Ty.fo62_1, Ty.ag22, Ty.sz22⟩
  repeat' (first
    | (refine exitAt hi hb ?_; clear hi hb; rintro rfl)
    | (refine exitAt2 hk hb ?_; clear hk hb; rintro rfl)
    | (refine SX.seqK ?_; intro N hN)
    | ((first | (refine SX.ops ?_)); simp only [WS, JA, JB, wI64, wU64, Int.reduceAdd, Int.reduceSub, Int.reduceMul, Int.reduceLE, Int.reduceLT, Int.reduceNeg, Int.reduceToNat, Int.cast_ofNat_Int, sx0, sx1, sx2, sx3, sx4, sx5, sx6, sx7, sy0, sy1, List.filterMap_cons, JC, JD, WT, JE, JF, JG, JH, JI, JJ, JK, WU, JL, JM, JN, JO, WV, JP, JQ, WW, JR, JS, JT, JU, JV, JW, JX, JY, JZ, WA, WB, WC, WD, WE, WF, WG, WH, WI, WJ, WK, WL, WM, WN, true_and, and_true, reduceCtorEq, ↓reduceIte, ↓bifT, ↓bifF, ↓gifT, ↓gifF, eq_self, WO, WP, WQ, Nat.reduceLT, Nat.reduceLeDiff, Nat.reduceAdd, Nat.reduceSub, Nat.reduceMul, Nat.reduceMod, WR, Nat.reduceBEq, Int.reduceBEq, Int.reduceBNe, BEq.rfl, hnt, hT, a1, a2, a3, a4])
    | ((first | refine SX.skip ?_ | refine SX.exit ?_ | refine SX.label ?_); try simp only [WS, JA, JB, wI64, wU64, Int.reduceAdd, Int.reduceSub, Int.reduceMul, Int.reduceLE, Int.reduceLT, Int.reduceNeg, Int.reduceToNat, Int.cast_ofNat_Int, sx0, sx1, sx2, sx3, sx4, sx5, sx6, sx7, sy0, sy1, List.filterMap_cons, JC, JD, WT, JE, JF, JG, JH, JI, JJ, JK, WU, JL, JM, JN, JO, WV, JP, JQ, WW, JR, JS, JT, JU, JV, JW, JX, JY, JZ, WA, WB, WC, WD, WE, WF, WG, WH, WI, WJ, WK, WL, WM, WN, true_and, and_true, reduceCtorEq, ↓reduceIte, ↓bifT, ↓bifF, ↓gifT, ↓gifF, eq_self, WO, WP, WQ, Nat.reduceLT, Nat.reduceLeDiff, Nat.reduceAdd, Nat.reduceSub, Nat.reduceMul, Nat.reduceMod, WR, Nat.reduceBEq, Int.reduceBEq, Int.reduceBNe, BEq.rfl])
    | (refine SX.cond rfl (fun hb => ?_) (fun hb => ?_) <;> ((first | cases hb | (simp only [decide_eq_true_eq, decide_eq_false_iff_not, beq_iff_eq, beq_eq_false_iff_ne, bne_iff_ne, Bool.and_eq_true, Bool.or_eq_true, Bool.not_eq_true', Bool.not_eq_false', Bool.and_eq_false_iff, Bool.or_eq_false_iff, Int.not_lt, Int.not_le] at hb) | skip) <;> (first | (exfalso; omega) | skip)))
    | (refine SX.ret ?_; try simp only [WS, JA, JB, wI64, wU64, Int.reduceAdd, Int.reduceSub, Int.reduceMul, Int.reduceLE, Int.reduceLT, Int.reduceNeg, Int.reduceToNat, Int.cast_ofNat_Int, sx0, sx1, sx2, sx3, sx4, sx5, sx6, sx7, sy0, sy1, List.filterMap_cons, JC, JD, WT, JE, JF, JG, JH, JI, JJ, JK, WU, JL, JM, JN, JO, WV, JP, JQ, WW, JR, JS, JT, JU, JV, JW, JX, JY, JZ, WA, WB, WC, WD, WE, WF, WG, WH, WI, WJ, WK, WL, WM, WN, true_and, and_true, reduceCtorEq, ↓reduceIte, ↓bifT, ↓bifF, ↓gifT, ↓gifF, eq_self, WO, WP, WQ, Nat.reduceLT, Nat.reduceLeDiff, Nat.reduceAdd, Nat.reduceSub, Nat.reduceMul, Nat.reduceMod, WR, Nat.reduceBEq, Int.reduceBEq, Int.reduceBNe, BEq.rfl])
    | (refine hN _ ?_; clear hN N)
    | (refine hK _ _ (Fin.res rfl hown ?_); simp only [WS, JA, JB, wI64, wU64, Int.reduceAdd, Int.reduceSub, Int.reduceMul, Int.reduceLE, Int.reduceLT, Int.reduceNeg, Int.reduceToNat, Int.cast_ofNat_Int, sx0, sx1, sx2, sx3, sx4, sx5, sx6, sx7, sy0, sy1, List.filterMap_cons, JC, JD, WT, JE, JF, JG, JH, JI, JJ, JK, WU, JL, JM, JN, JO, WV, JP, JQ, WW, JR, JS, JT, JU, JV, JW, JX, JY, JZ, WA, WB, WC, WD, WE, WF, WG, WH, WI, WJ, WK, WL, WM, WN, true_and, and_true, reduceCtorEq, ↓reduceIte, ↓bifT, ↓bifF, ↓gifT, ↓gifF, eq_self, WO, WP, WQ, Nat.reduceLT, Nat.reduceLeDiff, Nat.reduceAdd, Nat.reduceSub, Nat.reduceMul, Nat.reduceMod, WR, Nat.reduceBEq, Int.reduceBEq, Int.reduceBNe, BEq.rfl, f_a, f_b, f_n, f_c, f_B, f_v, f_g, f_0, f_1, f_2, hT, hwi, a1, a2, a3, a4]; intro w' hbel; refine Done.out ?_)
    | (clear hN N; first | (refine hN _ ?_; clear hN N) | (clear hN N; first | (refine hN _ ?_; clear hN N) | (clear hN N; first | (refine hN _ ?_; clear hN N) | (clear hN N; first | (refine hN _ ?_; clear hN N) | (clear hN N; first | (refine hN _ ?_; clear hN N) | (refine hN _ ?_; clear hN N))))))
    | (refine bif2.mk (fun hb => ?_) (fun hb => ?_) <;> (try simp only [hb, WS, JA, JB, wI64, wU64, Int.reduceAdd, Int.reduceSub, Int.reduceMul, Int.reduceLE, Int.reduceLT, Int.reduceNeg, Int.reduceToNat, Int.cast_ofNat_Int, sx0, sx1, sx2, sx3, sx4, sx5, sx6, sx7, sy0, sy1, List.filterMap_cons, JC, JD, WT, JE, JF, JG, JH, JI, JJ, JK, WU, JL, JM, JN, JO, WV, JP, JQ, WW, JR, JS, JT, JU, JV, JW, JX, JY, JZ, WA, WB, WC, WD, WE, WF, WG, WH, WI, WJ, WK, WL, WM, WN, true_and, and_true, reduceCtorEq, ↓reduceIte, ↓bifT, ↓bifF, ↓gifT, ↓gifF, eq_self, WO, WP, WQ, Nat.reduceLT, Nat.reduceLeDiff, Nat.reduceAdd, Nat.reduceSub, Nat.reduceMul, Nat.reduceMod, WR, Nat.reduceBEq, Int.reduceBEq, Int.reduceBNe, BEq.rfl, hnt, hT, a1, a2, a3, a4]) <;> ((first | cases hb | (simp only [decide_eq_true_eq, decide_eq_false_iff_not, beq_iff_eq, beq_eq_false_iff_ne, bne_iff_ne, Bool.and_eq_true, Bool.or_eq_true, Bool.not_eq_true', Bool.not_eq_false', Bool.and_eq_false_iff, Bool.or_eq_false_iff, Int.not_lt, Int.not_le] at hb) | skip) <;> (first | (exfalso; omega) | skip)))
    | ((first | (refine CallVC.pv hP (ex13_any) rfl ?_) | (refine CallQ.pv hP (ex13_any) rfl ?_) | (refine Ctr.use (new_to (m := []) rfl) hP ?_ [] ?_ rfl rfl ?_; (focus (intro p hp; cases hp)); (focus (refine LeR.of rfl trivial ?_ ?_ ?_ ?_ ?_ <;> first | decide | (simp only [WS, JA, JB, wI64, wU64, Int.reduceAdd, Int.reduceSub, Int.reduceMul, Int.reduceLE, Int.reduceLT, Int.reduceNeg, Int.reduceToNat, Int.cast_ofNat_Int, sx0, sx1, sx2, sx3, sx4, sx5, sx6, sx7, sy0, sy1, List.filterMap_cons, JC, JD, WT, JE, JF, JG, JH, JI, JJ, JK, WU, JL, JM, JN, JO, WV, JP, JQ, WW, JR, JS, JT, JU, JV, JW, JX, JY, JZ, WA, WB, WC, WD, WE, WF, WG, WH, WI, WJ, WK, WL, WM, WN, true_and, and_true, reduceCtorEq, ↓reduceIte, ↓bifT, ↓bifF, ↓gifT, ↓gifF, eq_self, WO, WP, WQ, Nat.reduceLT, Nat.reduceLeDiff, Nat.reduceAdd, Nat.reduceSub, Nat.reduceMul, Nat.reduceMod, WR, Nat.reduceBEq, Int.reduceBEq, Int.reduceBNe, BEq.rfl, List.getD_cons_zero, List.getD_cons_succ, or_false, false_or, or_self, or_true, true_or, decide_true]; done))); intro os' s hR; obtain ⟨rfl, rfl⟩ := hR) | (refine Ctr.use (room_begin hR (by omega) (rm5 (by omega)) (by rw [wU64 (by omega) (by omega)])) hP ?_ [0,1] ?_ rfl rfl ?_; (focus (intro p hp; cases hp)); (focus (refine LeR.of rfl trivial ?_ ?_ ?_ ?_ ?_ <;> first | decide | (simp only [WS, JA, JB, wI64, wU64, Int.reduceAdd, Int.reduceSub, Int.reduceMul, Int.reduceLE, Int.reduceLT, Int.reduceNeg, Int.reduceToNat, Int.cast_ofNat_Int, sx0, sx1, sx2, sx3, sx4, sx5, sx6, sx7, sy0, sy1, List.filterMap_cons, JC, JD, WT, JE, JF, JG, JH, JI, JJ, JK, WU, JL, JM, JN, JO, WV, JP, JQ, WW, JR, JS, JT, JU, JV, JW, JX, JY, JZ, WA, WB, WC, WD, WE, WF, WG, WH, WI, WJ, WK, WL, WM, WN, true_and, and_true, reduceCtorEq, ↓reduceIte, ↓bifT, ↓bifF, ↓gifT, ↓gifF, eq_self, WO, WP, WQ, Nat.reduceLT, Nat.reduceLeDiff, Nat.reduceAdd, Nat.reduceSub, Nat.reduceMul, Nat.reduceMod, WR, Nat.reduceBEq, Int.reduceBEq, Int.reduceBNe, BEq.rfl, List.getD_cons_zero, List.getD_cons_succ, or_false, false_or, or_self, or_true, true_or, decide_true]; done))); intro os' s hR; obtain ⟨rfl, rfl⟩ := hR) | (refine Ctr.use (marks_any ms hR.inv) hP ?_ [0,1] ?_ rfl rfl ?_; (focus (intro p hp; cases hp)); (focus (refine LeR.of rfl trivial ?_ ?_ ?_ ?_ ?_ <;> first | decide | (simp only [WS, JA, JB, wI64, wU64, Int.reduceAdd, Int.reduceSub, Int.reduceMul, Int.reduceLE, Int.reduceLT, Int.reduceNeg, Int.reduceToNat, Int.cast_ofNat_Int, sx0, sx1, sx2, sx3, sx4, sx5, sx6, sx7, sy0, sy1, List.filterMap_cons, JC, JD, WT, JE, JF, JG, JH, JI, JJ, JK, WU, JL, JM, JN, JO, WV, JP, JQ, WW, JR, JS, JT, JU, JV, JW, JX, JY, JZ, WA, WB, WC, WD, WE, WF, WG, WH, WI, WJ, WK, WL, WM, WN, true_and, and_true, reduceCtorEq, ↓reduceIte, ↓bifT, ↓bifF, ↓gifT, ↓gifF, eq_self, WO, WP, WQ, Nat.reduceLT, Nat.reduceLeDiff, Nat.reduceAdd, Nat.reduceSub, Nat.reduceMul, Nat.reduceMod, WR, Nat.reduceBEq, Int.reduceBEq, Int.reduceBNe, BEq.rfl, List.getD_cons_zero, List.getD_cons_succ, or_false, false_or, or_self, or_true, true_or, decide_true]; done))); intro os' s hR; obtain ⟨rfl, rfl⟩ := hR) | (refine VO.ptrNil rfl rfl (by rw [hP]; exact Tryd.underlying47) ?_)); simp only [WS, JA, JB, wI64, wU64, Int.reduceAdd, Int.reduceSub, Int.reduceMul, Int.reduceLE, Int.reduceLT, Int.reduceNeg, Int.reduceToNat, Int.cast_ofNat_Int, sx0, sx1, sx2, sx3, sx4, sx5, sx6, sx7, sy0, sy1, List.filterMap_cons, JC, JD, WT, JE, JF, JG, JH, JI, JJ, JK, WU, JL, JM, JN, JO, WV, JP, JQ, WW, JR, JS, JT, JU, JV, JW, JX, JY, JZ, WA, WB, WC, WD, WE, WF, WG, WH, WI, WJ, WK, WL, WM, WN, true_and, and_true, reduceCtorEq, ↓reduceIte, ↓bifT, ↓bifF, ↓gifT, ↓gifF, eq_self, WO, WP, WQ, Nat.reduceLT, Nat.reduceLeDiff, Nat.reduceAdd, Nat.reduceSub, Nat.reduceMul, Nat.reduceMod, WR, Nat.reduceBEq, Int.reduceBEq, Int.reduceBNe, BEq.rfl, hnt, hT, a1, a2, a3, a4])
    | (refine SX.loop (ι := { k : Nat // k ≤ ms.length }) (fun k => ⟨[(0, vv (.int .u8 a)), (3, vv (.bool true)), (8, .one (.c (.row 0))), (9, vv (.int .u64 (leastQ ms k.1))), (10, vv (.int .i64 k.1))], [mrow ms]⟩) (fun k => ms.length - k.1) ⟨0, Nat.zero_le _⟩ ⟨[2], (LeR.of (by rw [hbl]; decide) (by simp only [WS, JA, JB, wI64, wU64, Int.reduceAdd, Int.reduceSub, Int.reduceMul, Int.reduceLE, Int.reduceLT, Int.reduceNeg, Int.reduceToNat, Int.cast_ofNat_Int, sx0, sx1, sx2, sx3, sx4, sx5, sx6, sx7, sy0, sy1, List.filterMap_cons, JC, JD, WT, JE, JF, JG, JH, JI, JJ, JK, WU, JL, JM, JN, JO, WV, JP, JQ, WW, JR, JS, JT, JU, JV, JW, JX, JY, JZ, WA, WB, WC, WD, WE, WF, WG, WH, WI, WJ, WK, WL, WM, WN, true_and, and_true, reduceCtorEq, ↓reduceIte, ↓bifT, ↓bifF, ↓gifT, ↓gifF, eq_self, WO, WP, WQ, Nat.reduceLT, Nat.reduceLeDiff, Nat.reduceAdd, Nat.reduceSub, Nat.reduceMul, Nat.reduceMod, WR, Nat.reduceBEq, Int.reduceBEq, Int.reduceBNe, BEq.rfl, List.getD_cons_zero, List.getD_cons_succ, or_false, false_or, or_self, or_true, true_or, decide_true]; try (rfl)) (by simp only [WS, JA, JB, wI64, wU64, Int.reduceAdd, Int.reduceSub, Int.reduceMul, Int.reduceLE, Int.reduceLT, Int.reduceNeg, Int.reduceToNat, Int.cast_ofNat_Int, sx0, sx1, sx2, sx3, sx4, sx5, sx6, sx7, sy0, sy1, List.filterMap_cons, JC, JD, WT, JE, JF, JG, JH, JI, JJ, JK, WU, JL, JM, JN, JO, WV, JP, JQ, WW, JR, JS, JT, JU, JV, JW, JX, JY, JZ, WA, WB, WC, WD, WE, WF, WG, WH, WI, WJ, WK, WL, WM, WN, true_and, and_true, reduceCtorEq, ↓reduceIte, ↓bifT, ↓bifF, ↓gifT, ↓gifF, eq_self, WO, WP, WQ, Nat.reduceLT, Nat.reduceLeDiff, Nat.reduceAdd, Nat.reduceSub, Nat.reduceMul, Nat.reduceMod, WR, Nat.reduceBEq, Int.reduceBEq, Int.reduceBNe, BEq.rfl, List.getD_cons_zero, List.getD_cons_succ, or_false, false_or, or_self, or_true, true_or, decide_true]; try (rfl)) (by decide) (by simp only [WS, JA, JB, wI64, wU64, Int.reduceAdd, Int.reduceSub, Int.reduceMul, Int.reduceLE, Int.reduceLT, Int.reduceNeg, Int.reduceToNat, Int.cast_ofNat_Int, sx0, sx1, sx2, sx3, sx4, sx5, sx6, sx7, sy0, sy1, List.filterMap_cons, JC, JD, WT, JE, JF, JG, JH, JI, JJ, JK, WU, JL, JM, JN, JO, WV, JP, JQ, WW, JR, JS, JT, JU, JV, JW, JX, JY, JZ, WA, WB, WC, WD, WE, WF, WG, WH, WI, WJ, WK, WL, WM, WN, true_and, and_true, reduceCtorEq, ↓reduceIte, ↓bifT, ↓bifF, ↓gifT, ↓gifF, eq_self, WO, WP, WQ, Nat.reduceLT, Nat.reduceLeDiff, Nat.reduceAdd, Nat.reduceSub, Nat.reduceMul, Nat.reduceMod, WR, Nat.reduceBEq, Int.reduceBEq, Int.reduceBNe, BEq.rfl, List.getD_cons_zero, List.getD_cons_succ, or_false, false_or, or_self, or_true, true_or, decide_true]) (by simp only [WS, JA, JB, wI64, wU64, Int.reduceAdd, Int.reduceSub, Int.reduceMul, Int.reduceLE, Int.reduceLT, Int.reduceNeg, Int.reduceToNat, Int.cast_ofNat_Int, sx0, sx1, sx2, sx3, sx4, sx5, sx6, sx7, sy0, sy1, List.filterMap_cons, JC, JD, WT, JE, JF, JG, JH, JI, JJ, JK, WU, JL, JM, JN, JO, WV, JP, JQ, WW, JR, JS, JT, JU, JV, JW, JX, JY, JZ, WA, WB, WC, WD, WE, WF, WG, WH, WI, WJ, WK, WL, WM, WN, true_and, and_true, reduceCtorEq, ↓reduceIte, ↓bifT, ↓bifF, ↓gifT, ↓gifF, eq_self, WO, WP, WQ, Nat.reduceLT, Nat.reduceLeDiff, Nat.reduceAdd, Nat.reduceSub, Nat.reduceMul, Nat.reduceMod, WR, Nat.reduceBEq, Int.reduceBEq, Int.reduceBNe, BEq.rfl, List.getD_cons_zero, List.getD_cons_succ, or_false, false_or, or_self, or_true, true_or, decide_true]) (by simp only [WS, JA, JB, wI64, wU64, Int.reduceAdd, Int.reduceSub, Int.reduceMul, Int.reduceLE, Int.reduceLT, Int.reduceNeg, Int.reduceToNat, Int.cast_ofNat_Int, sx0, sx1, sx2, sx3, sx4, sx5, sx6, sx7, sy0, sy1, List.filterMap_cons, JC, JD, WT, JE, JF, JG, JH, JI, JJ, JK, WU, JL, JM, JN, JO, WV, JP, JQ, WW, JR, JS, JT, JU, JV, JW, JX, JY, JZ, WA, WB, WC, WD, WE, WF, WG, WH, WI, WJ, WK, WL, WM, WN, true_and, and_true, reduceCtorEq, ↓reduceIte, ↓bifT, ↓bifF, ↓gifT, ↓gifF, eq_self, WO, WP, WQ, Nat.reduceLT, Nat.reduceLeDiff, Nat.reduceAdd, Nat.reduceSub, Nat.reduceMul, Nat.reduceMod, WR, Nat.reduceBEq, Int.reduceBEq, Int.reduceBNe, BEq.rfl, List.getD_cons_zero, List.getD_cons_succ, or_false, false_or, or_self, or_true, true_or, decide_true]))⟩ ?_ <;> rintro ⟨k, hk⟩ <;> simp only [] at hk ⊢)
    | (refine SX.loop (ι := { p : List Mk × Nat // p.2 ≤ n ∧ Room p.1 p.2 }) (fun i => ⟨[(0, vv (.int .u8 a)), (3, vv (.bool true)), (4, .one (.c (.loc 0 0))), (5, vv (.int .i64 n)), (6, vv (.int .i64 ((i.1.2 + 1 : Nat) : Int)))], [.cells [.row 1] 148, mrow i.1.1]⟩) (fun i => n - i.1.2) ⟨([], 0), Nat.zero_le _, Room.nil⟩ ⟨[0, 1], (LeR.of (by rw [hbl]; decide) (by simp only [WS, JA, JB, wI64, wU64, Int.reduceAdd, Int.reduceSub, Int.reduceMul, Int.reduceLE, Int.reduceLT, Int.reduceNeg, Int.reduceToNat, Int.cast_ofNat_Int, sx0, sx1, sx2, sx3, sx4, sx5, sx6, sx7, sy0, sy1, List.filterMap_cons, JC, JD, WT, JE, JF, JG, JH, JI, JJ, JK, WU, JL, JM, JN, JO, WV, JP, JQ, WW, JR, JS, JT, JU, JV, JW, JX, JY, JZ, WA, WB, WC, WD, WE, WF, WG, WH, WI, WJ, WK, WL, WM, WN, true_and, and_true, reduceCtorEq, ↓reduceIte, ↓bifT, ↓bifF, ↓gifT, ↓gifF, eq_self, WO, WP, WQ, Nat.reduceLT, Nat.reduceLeDiff, Nat.reduceAdd, Nat.reduceSub, Nat.reduceMul, Nat.reduceMod, WR, Nat.reduceBEq, Int.reduceBEq, Int.reduceBNe, BEq.rfl, List.getD_cons_zero, List.getD_cons_succ, or_false, false_or, or_self, or_true, true_or, decide_true]; try (rfl)) (by simp only [WS, JA, JB, wI64, wU64, Int.reduceAdd, Int.reduceSub, Int.reduceMul, Int.reduceLE, Int.reduceLT, Int.reduceNeg, Int.reduceToNat, Int.cast_ofNat_Int, sx0, sx1, sx2, sx3, sx4, sx5, sx6, sx7, sy0, sy1, List.filterMap_cons, JC, JD, WT, JE, JF, JG, JH, JI, JJ, JK, WU, JL, JM, JN, JO, WV, JP, JQ, WW, JR, JS, JT, JU, JV, JW, JX, JY, JZ, WA, WB, WC, WD, WE, WF, WG, WH, WI, WJ, WK, WL, WM, WN, true_and, and_true, reduceCtorEq, ↓reduceIte, ↓bifT, ↓bifF, ↓gifT, ↓gifF, eq_self, WO, WP, WQ, Nat.reduceLT, Nat.reduceLeDiff, Nat.reduceAdd, Nat.reduceSub, Nat.reduceMul, Nat.reduceMod, WR, Nat.reduceBEq, Int.reduceBEq, Int.reduceBNe, BEq.rfl, List.getD_cons_zero, List.getD_cons_succ, or_false, false_or, or_self, or_true, true_or, decide_true]; try (rfl)) (by decide) (by simp only [WS, JA, JB, wI64, wU64, Int.reduceAdd, Int.reduceSub, Int.reduceMul, Int.reduceLE, Int.reduceLT, Int.reduceNeg, Int.reduceToNat, Int.cast_ofNat_Int, sx0, sx1, sx2, sx3, sx4, sx5, sx6, sx7, sy0, sy1, List.filterMap_cons, JC, JD, WT, JE, JF, JG, JH, JI, JJ, JK, WU, JL, JM, JN, JO, WV, JP, JQ, WW, JR, JS, JT, JU, JV, JW, JX, JY, JZ, WA, WB, WC, WD, WE, WF, WG, WH, WI, WJ, WK, WL, WM, WN, true_and, and_true, reduceCtorEq, ↓reduceIte, ↓bifT, ↓bifF, ↓gifT, ↓gifF, eq_self, WO, WP, WQ, Nat.reduceLT, Nat.reduceLeDiff, Nat.reduceAdd, Nat.reduceSub, Nat.reduceMul, Nat.reduceMod, WR, Nat.reduceBEq, Int.reduceBEq, Int.reduceBNe, BEq.rfl, List.getD_cons_zero, List.getD_cons_succ, or_false, false_or, or_self, or_true, true_or, decide_true]) (by simp only [WS, JA, JB, wI64, wU64, Int.reduceAdd, Int.reduceSub, Int.reduceMul, Int.reduceLE, Int.reduceLT, Int.reduceNeg, Int.reduceToNat, Int.cast_ofNat_Int, sx0, sx1, sx2, sx3, sx4, sx5, sx6, sx7, sy0, sy1, List.filterMap_cons, JC, JD, WT, JE, JF, JG, JH, JI, JJ, JK, WU, JL, JM, JN, JO, WV, JP, JQ, WW, JR, JS, JT, JU, JV, JW, JX, JY, JZ, WA, WB, WC, WD, WE, WF, WG, WH, WI, WJ, WK, WL, WM, WN, true_and, and_true, reduceCtorEq, ↓reduceIte, ↓bifT, ↓bifF, ↓gifT, ↓gifF, eq_self, WO, WP, WQ, Nat.reduceLT, Nat.reduceLeDiff, Nat.reduceAdd, Nat.reduceSub, Nat.reduceMul, Nat.reduceMod, WR, Nat.reduceBEq, Int.reduceBEq, Int.reduceBNe, BEq.rfl, List.getD_cons_zero, List.getD_cons_succ, or_false, false_or, or_self, or_true, true_or, decide_true]) (by simp only [WS, JA, JB, wI64, wU64, Int.reduceAdd, Int.reduceSub, Int.reduceMul, Int.reduceLE, Int.reduceLT, Int.reduceNeg, Int.reduceToNat, Int.cast_ofNat_Int, sx0, sx1, sx2, sx3, sx4, sx5, sx6, sx7, sy0, sy1, List.filterMap_cons, JC, JD, WT, JE, JF, JG, JH, JI, JJ, JK, WU, JL, JM, JN, JO, WV, JP, JQ, WW, JR, JS, JT, JU, JV, JW, JX, JY, JZ, WA, WB, WC, WD, WE, WF, WG, WH, WI, WJ, WK, WL, WM, WN, true_and, and_true, reduceCtorEq, ↓reduceIte, ↓bifT, ↓bifF, ↓gifT, ↓gifF, eq_self, WO, WP, WQ, Nat.reduceLT, Nat.reduceLeDiff, Nat.reduceAdd, Nat.reduceSub, Nat.reduceMul, Nat.reduceMod, WR, Nat.reduceBEq, Int.reduceBEq, Int.reduceBNe, BEq.rfl, List.getD_cons_zero, List.getD_cons_succ, or_false, false_or, or_self, or_true, true_or, decide_true]))⟩ ?_ <;> rintro ⟨⟨ms, i⟩, hi, hR⟩ <;> simp only [] at hi hR ⊢)
    | (refine VO.slString (nm3 (i + 1)) rfl rfl (nm3_cells (i + 1) (by omega)) rfl (by rw [hP]; exact Tryd.underlying58) (by rw [hP]; exact Tryd.underlying5) (by rw [hP]; exact Tryd.underlying9) ?_ <;> simp only [WS, JA, JB, wI64, wU64, Int.reduceAdd, Int.reduceSub, Int.reduceMul, Int.reduceLE, Int.reduceLT, Int.reduceNeg, Int.reduceToNat, Int.cast_ofNat_Int, sx0, sx1, sx2, sx3, sx4, sx5, sx6, sx7, sy0, sy1, List.filterMap_cons, JC, JD, WT, JE, JF, JG, JH, JI, JJ, JK, WU, JL, JM, JN, JO, WV, JP, JQ, WW, JR, JS, JT, JU, JV, JW, JX, JY, JZ, WA, WB, WC, WD, WE, WF, WG, WH, WI, WJ, WK, WL, WM, WN, true_and, and_true, reduceCtorEq, ↓reduceIte, ↓bifT, ↓bifF, ↓gifT, ↓gifF, eq_self, WO, WP, WQ, Nat.reduceLT, Nat.reduceLeDiff, Nat.reduceAdd, Nat.reduceSub, Nat.reduceMul, Nat.reduceMod, WR, Nat.reduceBEq, Int.reduceBEq, Int.reduceBNe, BEq.rfl, hnt, hT])
    | (refine ⟨_, mks_q ms k (by omega), ?_⟩)
    | (refine SX.block ?_)
    | (refine and_mk ?_ ?_; (focus first | decide | omega | rfl | assumption | (simp only [List.length_append, List.length_cons, List.length_nil, B_size]; omega) | (simp; done)))
    | (refine And.intro ?_ ?_))
  all_goals (try refine Done.mk ?_)
  · refine ⟨⟨(roomN ms i, i + 1), by show i + 1 ≤ n; omega, hR.next (by omega)⟩, [0, 4], (LeR.of (by rw [hbl]; decide) (by simp only [WS, JA, JB, wI64, wU64, Int.reduceAdd, Int.reduceSub, Int.reduceMul, Int.reduceLE, Int.reduceLT, Int.reduceNeg, Int.reduceToNat, Int.cast_ofNat_Int, sx0, sx1, sx2, sx3, sx4, sx5, sx6, sx7, sy0, sy1, List.filterMap_cons, JC, JD, WT, JE, JF, JG, JH, JI, JJ, JK, WU, JL, JM, JN, JO, WV, JP, JQ, WW, JR, JS, JT, JU, JV, JW, JX, JY, JZ, WA, WB, WC, WD, WE, WF, WG, WH, WI, WJ, WK, WL, WM, WN, true_and, and_true, reduceCtorEq, ↓reduceIte, ↓bifT, ↓bifF, ↓gifT, ↓gifF, eq_self, WO, WP, WQ, Nat.reduceLT, Nat.reduceLeDiff, Nat.reduceAdd, Nat.reduceSub, Nat.reduceMul, Nat.reduceMod, WR, Nat.reduceBEq, Int.reduceBEq, Int.reduceBNe, BEq.rfl, List.getD_cons_zero, List.getD_cons_succ, or_false, false_or, or_self, or_true, true_or, decide_true]; try (first | (rw [wI64 (by omega) (by omega)]; rfl) | rfl)) (by simp only [WS, JA, JB, wI64, wU64, Int.reduceAdd, Int.reduceSub, Int.reduceMul, Int.reduceLE, Int.reduceLT, Int.reduceNeg, Int.reduceToNat, Int.cast_ofNat_Int, sx0, sx1, sx2, sx3, sx4, sx5, sx6, sx7, sy0, sy1, List.filterMap_cons, JC, JD, WT, JE, JF, JG, JH, JI, JJ, JK, WU, JL, JM, JN, JO, WV, JP, JQ, WW, JR, JS, JT, JU, JV, JW, JX, JY, JZ, WA, WB, WC, WD, WE, WF, WG, WH, WI, WJ, WK, WL, WM, WN, true_and, and_true, reduceCtorEq, ↓reduceIte, ↓bifT, ↓bifF, ↓gifT, ↓gifF, eq_self, WO, WP, WQ, Nat.reduceLT, Nat.reduceLeDiff, Nat.reduceAdd, Nat.reduceSub, Nat.reduceMul, Nat.reduceMod, WR, Nat.reduceBEq, Int.reduceBEq, Int.reduceBNe, BEq.rfl, List.getD_cons_zero, List.getD_cons_succ, or_false, false_or, or_self, or_true, true_or, decide_true]; try (first | (rw [wI64 (by omega) (by omega)]; rfl) | rfl)) (by decide) (by simp only [WS, JA, JB, wI64, wU64, Int.reduceAdd, Int.reduceSub, Int.reduceMul, Int.reduceLE, Int.reduceLT, Int.reduceNeg, Int.reduceToNat, Int.cast_ofNat_Int, sx0, sx1, sx2, sx3, sx4, sx5, sx6, sx7, sy0, sy1, List.filterMap_cons, JC, JD, WT, JE, JF, JG, JH, JI, JJ, JK, WU, JL, JM, JN, JO, WV, JP, JQ, WW, JR, JS, JT, JU, JV, JW, JX, JY, JZ, WA, WB, WC, WD, WE, WF, WG, WH, WI, WJ, WK, WL, WM, WN, true_and, and_true, reduceCtorEq, ↓reduceIte, ↓bifT, ↓bifF, ↓gifT, ↓gifF, eq_self, WO, WP, WQ, Nat.reduceLT, Nat.reduceLeDiff, Nat.reduceAdd, Nat.reduceSub, Nat.reduceMul, Nat.reduceMod, WR, Nat.reduceBEq, Int.reduceBEq, Int.reduceBNe, BEq.rfl, List.getD_cons_zero, List.getD_cons_succ, or_false, false_or, or_self, or_true, true_or, decide_true]) (by simp only [WS, JA, JB, wI64, wU64, Int.reduceAdd, Int.reduceSub, Int.reduceMul, Int.reduceLE, Int.reduceLT, Int.reduceNeg, Int.reduceToNat, Int.cast_ofNat_Int, sx0, sx1, sx2, sx3, sx4, sx5, sx6, sx7, sy0, sy1, List.filterMap_cons, JC, JD, WT, JE, JF, JG, JH, JI, JJ, JK, WU, JL, JM, JN, JO, WV, JP, JQ, WW, JR, JS, JT, JU, JV, JW, JX, JY, JZ, WA, WB, WC, WD, WE, WF, WG, WH, WI, WJ, WK, WL, WM, WN, true_and, and_true, reduceCtorEq, ↓reduceIte, ↓bifT, ↓bifF, ↓gifT, ↓gifF, eq_self, WO, WP, WQ, Nat.reduceLT, Nat.reduceLeDiff, Nat.reduceAdd, Nat.reduceSub, Nat.reduceMul, Nat.reduceMod, WR, Nat.reduceBEq, Int.reduceBEq, Int.reduceBNe, BEq.rfl, List.getD_cons_zero, List.getD_cons_succ, or_false, false_or, or_self, or_true, true_or, decide_true]) (by simp only [WS, JA, JB, wI64, wU64, Int.reduceAdd, Int.reduceSub, Int.reduceMul, Int.reduceLE, Int.reduceLT, Int.reduceNeg, Int.reduceToNat, Int.cast_ofNat_Int, sx0, sx1, sx2, sx3, sx4, sx5, sx6, sx7, sy0, sy1, List.filterMap_cons, JC, JD, WT, JE, JF, JG, JH, JI, JJ, JK, WU, JL, JM, JN, JO, WV, JP, JQ, WW, JR, JS, JT, JU, JV, JW, JX, JY, JZ, WA, WB, WC, WD, WE, WF, WG, WH, WI, WJ, WK, WL, WM, WN, true_and, and_true, reduceCtorEq, ↓reduceIte, ↓bifT, ↓bifF, ↓gifT, ↓gifF, eq_self, WO, WP, WQ, Nat.reduceLT, Nat.reduceLeDiff, Nat.reduceAdd, Nat.reduceSub, Nat.reduceMul, Nat.reduceMod, WR, Nat.reduceBEq, Int.reduceBEq, Int.reduceBNe, BEq.rfl, List.getD_cons_zero, List.getD_cons_succ, or_false, false_or, or_self, or_true, true_or, decide_true])), by show n - (i + 1) < n - i; omega⟩
  · obtain ⟨h1, h2⟩ := hR.least hn1 hn2
    refine ⟨⟨k + 1, by omega⟩, [0], (LeR.of (by rw [hbl]; decide) (by simp only [WS, JA, JB, wI64, wU64, Int.reduceAdd, Int.reduceSub, Int.reduceMul, Int.reduceLE, Int.reduceLT, Int.reduceNeg, Int.reduceToNat, Int.cast_ofNat_Int, sx0, sx1, sx2, sx3, sx4, sx5, sx6, sx7, sy0, sy1, List.filterMap_cons, JC, JD, WT, JE, JF, JG, JH, JI, JJ, JK, WU, JL, JM, JN, JO, WV, JP, JQ, WW, JR, JS, JT, JU, JV, JW, JX, JY, JZ, WA, WB, WC, WD, WE, WF, WG, WH, WI, WJ, WK, WL, WM, WN, true_and, and_true, reduceCtorEq, ↓reduceIte, ↓bifT, ↓bifF, ↓gifT, ↓gifF, eq_self, WO, WP, WQ, Nat.reduceLT, Nat.reduceLeDiff, Nat.reduceAdd, Nat.reduceSub, Nat.reduceMul, Nat.reduceMod, WR, Nat.reduceBEq, Int.reduceBEq, Int.reduceBNe, BEq.rfl, List.getD_cons_zero, List.getD_cons_succ, or_false, false_or, or_self, or_true, true_or, decide_true]; try (first | (rw [leastQ_succ (by omega), wI64 (by omega) (by omega)]; exact ⟨rfl, rfl⟩) | rfl)) (by simp only [WS, JA, JB, wI64, wU64, Int.reduceAdd, Int.reduceSub, Int.reduceMul, Int.reduceLE, Int.reduceLT, Int.reduceNeg, Int.reduceToNat, Int.cast_ofNat_Int, sx0, sx1, sx2, sx3, sx4, sx5, sx6, sx7, sy0, sy1, List.filterMap_cons, JC, JD, WT, JE, JF, JG, JH, JI, JJ, JK, WU, JL, JM, JN, JO, WV, JP, JQ, WW, JR, JS, JT, JU, JV, JW, JX, JY, JZ, WA, WB, WC, WD, WE, WF, WG, WH, WI, WJ, WK, WL, WM, WN, true_and, and_true, reduceCtorEq, ↓reduceIte, ↓bifT, ↓bifF, ↓gifT, ↓gifF, eq_self, WO, WP, WQ, Nat.reduceLT, Nat.reduceLeDiff, Nat.reduceAdd, Nat.reduceSub, Nat.reduceMul, Nat.reduceMod, WR, Nat.reduceBEq, Int.reduceBEq, Int.reduceBNe, BEq.rfl, List.getD_cons_zero, List.getD_cons_succ, or_false, false_or, or_self, or_true, true_or, decide_true]; try (first | (rw [leastQ_succ (by omega), wI64 (by omega) (by omega)]; exact ⟨rfl, rfl⟩) | rfl)) (by decide) (by simp only [WS, JA, JB, wI64, wU64, Int.reduceAdd, Int.reduceSub, Int.reduceMul, Int.reduceLE, Int.reduceLT, Int.reduceNeg, Int.reduceToNat, Int.cast_ofNat_Int, sx0, sx1, sx2, sx3, sx4, sx5, sx6, sx7, sy0, sy1, List.filterMap_cons, JC, JD, WT, JE, JF, JG, JH, JI, JJ, JK, WU, JL, JM, JN, JO, WV, JP, JQ, WW, JR, JS, JT, JU, JV, JW, JX, JY, JZ, WA, WB, WC, WD, WE, WF, WG, WH, WI, WJ, WK, WL, WM, WN, true_and, and_true, reduceCtorEq, ↓reduceIte, ↓bifT, ↓bifF, ↓gifT, ↓gifF, eq_self, WO, WP, WQ, Nat.reduceLT, Nat.reduceLeDiff, Nat.reduceAdd, Nat.reduceSub, Nat.reduceMul, Nat.reduceMod, WR, Nat.reduceBEq, Int.reduceBEq, Int.reduceBNe, BEq.rfl, List.getD_cons_zero, List.getD_cons_succ, or_false, false_or, or_self, or_true, true_or, decide_true]) (by simp only [WS, JA, JB, wI64, wU64, Int.reduceAdd, Int.reduceSub, Int.reduceMul, Int.reduceLE, Int.reduceLT, Int.reduceNeg, Int.reduceToNat, Int.cast_ofNat_Int, sx0, sx1, sx2, sx3, sx4, sx5, sx6, sx7, sy0, sy1, List.filterMap_cons, JC, JD, WT, JE, JF, JG, JH, JI, JJ, JK, WU, JL, JM, JN, JO, WV, JP, JQ, WW, JR, JS, JT, JU, JV, JW, JX, JY, JZ, WA, WB, WC, WD, WE, WF, WG, WH, WI, WJ, WK, WL, WM, WN, true_and, and_true, reduceCtorEq, ↓reduceIte, ↓bifT, ↓bifF, ↓gifT, ↓gifF, eq_self, WO, WP, WQ, Nat.reduceLT, Nat.reduceLeDiff, Nat.reduceAdd, Nat.reduceSub, Nat.reduceMul, Nat.reduceMod, WR, Nat.reduceBEq, Int.reduceBEq, Int.reduceBNe, BEq.rfl, List.getD_cons_zero, List.getD_cons_succ, or_false, false_or, or_self, or_true, true_or, decide_true]) (by simp only [WS, JA, JB, wI64, wU64, Int.reduceAdd, Int.reduceSub, Int.reduceMul, Int.reduceLE, Int.reduceLT, Int.reduceNeg, Int.reduceToNat, Int.cast_ofNat_Int, sx0, sx1, sx2, sx3, sx4, sx5, sx6, sx7, sy0, sy1, List.filterMap_cons, JC, JD, WT, JE, JF, JG, JH, JI, JJ, JK, WU, JL, JM, JN, JO, WV, JP, JQ, WW, JR, JS, JT, JU, JV, JW, JX, JY, JZ, WA, WB, WC, WD, WE, WF, WG, WH, WI, WJ, WK, WL, WM, WN, true_and, and_true, reduceCtorEq, ↓reduceIte, ↓bifT, ↓bifF, ↓gifT, ↓gifF, eq_self, WO, WP, WQ, Nat.reduceLT, Nat.reduceLeDiff, Nat.reduceAdd, Nat.reduceSub, Nat.reduceMul, Nat.reduceMod, WR, Nat.reduceBEq, Int.reduceBEq, Int.reduceBNe, BEq.rfl, List.getD_cons_zero, List.getD_cons_succ, or_false, false_or, or_self, or_true, true_or, decide_true])), by show ms.length - (k + 1) < ms.length - k; omega⟩
  · obtain ⟨h1, h2⟩ := hR.least hn1 hn2
    refine ⟨?_, hbel⟩
    rw [h1, h2, beq_self_eq_true]
  · obtain ⟨h1, h2⟩ := hR.least hn1 hn2
    exact absurd (by rw [h1]; rfl) hb
end Go.Proofs.YtbdacbcpniegiaaDoor
namespace Go.Proofs.YtbdacbcpniegiaaDoor
open Go Go.ChangeShapes Go.WideShapes Go.ChangeAt Go.RowKit
set_option maxRecDepth 100000
theorem roomOwn : ownKnob Tryd.prog.godebug = none := by kernel_rfl
theorem roomLifted (os : Os) (started : os.Started) (H : Type) (enc : TypeId × Value → H) :
    ReturnsInHanded {} Tryd.checked os 6 .any (fun w args => (Rows.ledgerRoomSpec.pre enc Tryd.prog Tryd.f6 Rows.ledgerRoomRow.domain false w args ∧ laidMetH Tryd.prog Rows.ledgerRoomRow.laid w) ∧ sizedMet enc Tryd.prog Tryd.f6 (OpenSpec.ofChange Rows.ledgerRoomSpec) false w args)
      (Rows.ledgerRoomSpec.post enc Tryd.prog Tryd.f6 false true false false) := by
  refine returnsInHanded_of_change_and (C := Tryd.checked) (X := fun w _ => laidMetH Tryd.prog Rows.ledgerRoomRow.laid w) (fun _ _ _ hh h => h.of_heap hh) roomOwn started (by kernel_rfl) Tryd.func6
    (ChangeSpec.witness_shaped (enc := enc) (C := Tryd.checked) (os := os) (X := fun w _ => laidMetH Tryd.prog Rows.ledgerRoomRow.laid w) false (World.laidAll Tryd.prog os Rows.ledgerRoomRow.laid) #[.int .u8 0] 8 (World.laidAll_os _ _ _)
      (World.shaped_of_ZipB (by kernel_rfl) (by kernel_rfl)) (by kernel_rfl) (by kernel_rfl) (by kernel_rfl)
      (by rw [MakeChecks.laidMetH_plain _ _ _ (by kernel_rfl)]; exact laidMet_laidAll _ (by kernel_rfl) (by kernel_rfl))) ?_
  intro W base args ds gs before hval0 hW hc _ hL _
  have hval : ∀ (j : Nat) t v, Tryd.f6.params[j]? = some t → args[j]? = some v → Value.okWide Tryd.prog W .any base t v := hval0
  have hW' := hW
  obtain ⟨p, q, hA0, hV, rfl, _, _⟩ := hW
  have hA : DataW.TrodAll enc Tryd.prog W 0 (fun _ => true) true Tryd.f6.params.toList args.toList ds p := hA0
  rw [Tryd.params6] at hA hval
  obtain ⟨v0, vs0, d0, ds0, p0, q0, hargs, rfl, rfl, h0, r0⟩ := trodAll_cons hA
  obtain ⟨rfl, rfl, rfl⟩ := trodAll_nil r0
  obtain rfl : args = #[v0] := by cases args; simp_all
  obtain ⟨rfl, rfl⟩ := trodVars_none hV
  obtain ⟨x0, rfl, rfl, rfl, w0⟩ := open_int Tryd.underlying5 (hval 0 5 v0 rfl rfl) h0
  have b0 := u8_of w0
  obtain ⟨a0, rfl⟩ : ∃ a : Nat, x0 = a := ⟨x0.toNat, by omega⟩
  simp only [List.append_nil] at hW'
  refine (room_any a0 (by omega) W).mono fun e W' ⟨he, hb⟩ => ?_
  subst he
  exact ⟨_, rfl, post_of_below (pa := []) (pv := []) hW' (fun _ _ _ => trodAll_cons_mk (shut_bool Tryd.underlying4 _) trodAll_mk0) (fun sp _ => (trodAll_cons_mk (shut_int Tryd.underlying5 w0) trodAll_mk0)) (fun _ _ => rfl) rfl hb (ok_one (by kernel_rfl) rfl (okWide_bool_mk Tryd.underlying4 _))⟩
theorem roomSaid : Rows.LedgerRoomSaid :=
  OpenClaim.holds_of_wide 6 Tryd.f6 rfl rfl rfl rfl rfl rfl rfl ⟨rfl, rfl, rfl, rfl, rfl⟩ rfl rfl rfl rfl rfl (by kernel_rfl) Tryd.func6 (by kernel_rfl)
    (of_decide_eq_true (by kernel_rfl)) (by unfold Func.isWrapper; first | (rw [if_pos (by decide +kernel)]; kernel_rfl) | (rw [if_neg (by decide +kernel)]; exact ⟨rfl, rfl⟩))
    (fun os started H enc _ => roomLifted os started H enc)
theorem roomPlain (f : FuncId) (fn : Func) (hf : Tryd.pinned.checked.prog.funcNamed "noria/norialaw13.LedgerRoom" = some f) (hfn : Tryd.pinned.checked.prog.funcs[f]? = some fn) :
    true = Tryd.pinned.checked.prog.looks [] ∧ ∀ (j : Nat) t, fn.params[j]? = some t → Tryd.pinned.checked.prog.wantsStandIn t = false := by
  obtain rfl : f = 6 := Option.some.inj ((show Tryd.prog.funcNamed "noria/norialaw13.LedgerRoom" = some 6 by kernel_rfl).symm.trans hf) |>.symm
  obtain rfl : fn = Tryd.f6 := (Option.some.inj (Tryd.func6.symm.trans hfn)).symm
  refine ⟨by kernel_rfl, fun j t ht => ?_⟩
  rw [Tryd.params6] at ht
  have hm : t ∈ [5] := by simpa using Array.mem_of_getElem? ht
  have hall : ([5].all fun u => !Tryd.prog.wantsStandIn u) = true := by kernel_rfl
  exact (show Tryd.prog.wantsStandIn t = false by simpa using List.all_eq_true.1 hall t hm)
theorem roomCard : Rows.LedgerRoomCardSaid :=
  Claim7.holds_tied_plain_at .later [] _ _ _ _ roomSaid (fun _ h => by cases h) (by kernel_rfl) (fun _ h => by cases h) ledgerRoom_row_tie rfl ⟨rfl, rfl⟩ (by kernel_rfl) rfl roomPlain (by kernel_rfl)
#print axioms roomCard
end Go.Proofs.YtbdacbcpniegiaaDoor
