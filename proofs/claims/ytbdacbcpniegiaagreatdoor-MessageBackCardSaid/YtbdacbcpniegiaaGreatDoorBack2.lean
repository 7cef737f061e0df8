/- Own work: a part of the symbolic executor and of the walks of the functions that the claim reaches. -/
import Derived.Test.YtbdacbcpniegiaaGreatDoorBack1
import Derived.Test.YtbdacbcpniegiaaGreatDoorRows
import Derived.LaidLaws
set_option maxRecDepth 100000
set_option maxHeartbeats 64000000
set_option linter.unusedSimpArgs false
set_option linter.unusedVariables false
namespace Go.Proofs.YtbdacbcpniegiaaGreatDoor.Q
open Go Go.RowKit Go.Proofs Go.Sx
def nmK (x : UInt8) : Bool := !decide (x.toNat % 16 = 15)
def hvN (x : UInt8) : HvS := (nmV x, x.toNat / 4)
def askSb (l : List UInt8) : List (List UInt8) := (l.take 12).map nmV
def askUn (dl : Bool) (m : List UInt8) : List (List UInt8) := if dl then (m.take 6).map nmV else []
def askHv (dl : Bool) (m : List UInt8) : List HvS := if dl then ((m.take 4).filter nmK).map hvN else []
def askDet (q : Nat) (d : List UInt8) : List UInt8 := if 0 < q % 6 then d.take 40 else []
def rsN (t : Int) (x : UInt8) : Rs := ⟨t, nmV x, 1 + x.toNat / 8, false, [98]⟩
def tellRs (t : Int) (l : List UInt8) : List Rs := ((l.take 12).filter nmK).map (rsN t)
def tellRm (dl : Bool) (m : List UInt8) : List (List UInt8) := if dl then ((m.take 6).filter nmK).map nmV else []
theorem nmV_star (x : UInt8) : starB (nmV x) = true := by
  have h : x.toNat < 256 := x.toNat_lt
  have h3 := nameL_star ⟨x.toNat, h⟩
  simp only at h3
  unfold nmV
  by_cases hx : x.toNat % 16 = 15
  · rw [starB, h3]; simp [hx]
  · have h4 := nameL_right ⟨x.toNat, h⟩ hx
    simp only at h4
    rw [starB, h4]; simp
theorem nmV_name (x : UInt8) (hx : nmK x = true) : nameB (nmV x) = true := by
  have h : x.toNat < 256 := x.toNat_lt
  exact nameL_right ⟨x.toNat, h⟩ (by simpa [nmK] using hx)
theorem nmV_nostar (x : UInt8) (hx : nmK x = true) : (nmV x == [42]) = false := by
  have h3 := nameL_star ⟨x.toNat, x.toNat_lt⟩
  simp only at h3
  unfold nmV
  rw [h3]; simpa [nmK] using hx
theorem tN_1 (t : Int) : 1 ≤ (tN t : Int) ∧ (tN t : Int) ≤ 5 := by unfold tN; omega
theorem askSb_len (l : List UInt8) : (askSb l).length ≤ 12 := by simp [askSb]; omega
theorem askUn_len (dl : Bool) (l : List UInt8) : (askUn dl l).length ≤ 6 := by cases dl <;> simp [askUn]; omega
theorem filter_le {α : Type} (p : α → Bool) (l : List α) : (l.filter p).length ≤ l.length := List.length_filter_le p l
theorem askHv_len (dl : Bool) (l : List UInt8) : (askHv dl l).length ≤ 4 := by
  cases dl <;> simp [askHv]
  have := filter_le nmK (l.take 4); rw [List.length_take] at this; omega
theorem tellRs_len (t : Int) (l : List UInt8) : (tellRs t l).length ≤ 12 := by
  simp only [tellRs, List.length_map]
  have := filter_le nmK (l.take 12); rw [List.length_take] at this; omega
theorem tellRm_len (dl : Bool) (l : List UInt8) : (tellRm dl l).length ≤ 6 := by
  cases dl <;> simp [tellRm]
  have := filter_le nmK (l.take 6); rw [List.length_take] at this; omega
theorem askDet_len (q : Nat) (d : List UInt8) : (askDet q d).length ≤ 40 := by unfold askDet; split <;> simp; omega
theorem askSb_ok (l : List UInt8) : (askSb l).all starB = true := by
  simp only [askSb, List.all_eq_true, List.mem_map]
  rintro s ⟨x, _, rfl⟩; exact nmV_star x
theorem askUn_ok (dl : Bool) (l : List UInt8) : (askUn dl l).all starB = true := by
  cases dl
  · rfl
  · simp only [askUn, if_true, List.all_eq_true, List.mem_map]
    rintro s ⟨x, _, rfl⟩; exact nmV_star x
theorem askHv_ok (dl : Bool) (l : List UInt8) : ((askHv dl l).map (·.1)).all nameB = true := by
  cases dl
  · rfl
  · simp only [askHv, if_true, List.all_eq_true, List.mem_map, List.mem_filter]
    rintro s ⟨h, ⟨x, ⟨_, hx⟩, rfl⟩, rfl⟩; exact nmV_name x hx
theorem tellRm_ok (dl : Bool) (l : List UInt8) : (tellRm dl l).all nameB = true := by
  cases dl
  · rfl
  · simp only [tellRm, if_true, List.all_eq_true, List.mem_map, List.mem_filter]
    rintro s ⟨x, ⟨_, hx⟩, rfl⟩; exact nmV_name x hx
theorem rightB_nm {t : Int} (h1 : 1 ≤ t) (h2 : t ≤ 5) (x : UInt8) (hx : nmK x = true) : rightB (rsN t x) = true := by
  have h : x.toNat < 256 := x.toNat_lt
  have a1 : (0 : Int) < ((1 + x.toNat / 8 : Nat) : Int) := by omega
  have a2 : ((1 + x.toNat / 8 : Nat) : Int) ≤ 4611686018427387904 := by omega
  simp only [rightB, rsN, keyB, nmV_name x hx, nmV_nostar x hx, h1, h2, a1, a2, decide_true, Bool.or_true, Bool.true_and, Bool.and_true, Bool.not_false, Bool.false_and, List.length_cons, List.length_nil]
  rfl
theorem idxI_none {p : Rs → Bool} {l : List Rs} (h : ∀ x ∈ l, p x = false) : idxI p l = -1 := by
  unfold idxI
  rw [List.findIdx?_eq_none_iff.2 (by simpa using h)]
theorem idxI_some {p : Rs → Bool} {l : List Rs} {x : Rs} (hx : x ∈ l) (h : p x = true) : 0 ≤ idxI p l := by
  unfold idxI
  cases e : l.findIdx? p with
  | none =>
    rw [List.findIdx?_eq_none_iff] at e
    have := e x hx
    rw [h] at this; cases this
  | some i => simp
theorem tellRs_ok (t : Int) (h1 : 1 ≤ t) (h2 : t ≤ 5) (l : List UInt8) : ∀ r ∈ tellRs t l, wrongB t r = false := by
  simp only [tellRs, List.mem_map, List.mem_filter]
  rintro r ⟨x, ⟨_, hx⟩, rfl⟩
  rw [wrongB, rightB_nm h1 h2 x hx]; simp [rsN]
theorem ask_right (t : Int) (dl : Bool) (q : Nat) (d l m : List UInt8) : reqB (tN t) dl (q % 6) (askSb l) (askUn dl m) (askHv dl m) (askDet q d) = true := by
  have h0 := tN_1 t
  have h1 := askSb_len l
  have h2 := askUn_len dl m
  have h3 := askHv_len dl m
  have h4 := askDet_len q d
  have e1 : ((askSb l).length : Int) ≤ 64 := by omega
  have e2 : ((askUn dl m).length : Int) ≤ 64 := by omega
  have e3 : (((askHv dl m).map (·.1)).length : Int) ≤ 64 := by rw [List.length_map]; omega
  have e4 : ((askDet q d).length : Int) ≤ 256 := by omega
  have e5 : (decide (0 < ((q % 6 : Nat) : Int)) || askDet q d == []) = true := by
    by_cases h : 0 < q % 6
    · have : (0 : Int) < ((q % 6 : Nat) : Int) := by omega
      simp only [this, decide_true, Bool.true_or]
    · simp [askDet, h]
  have e6 : (dl || (((askUn dl m).length : Int) + ((askHv dl m).length : Int) == 0)) = true := by cases dl <;> simp [askUn, askHv]
  simp only [reqB, h0.1, h0.2, e1, e2, e3, e4, e5, e6, askSb_ok, askUn_ok, askHv_ok, decide_true, Bool.true_and, Bool.and_true]
theorem tell_right (t : Int) (dl mo : Bool) (q : Nat) (l m : List UInt8) : respB (tN t) dl (mo && dl) (1 + q % 6) (tellRs (tN t) l) (tellRm dl m) = true := by
  have h0 := tN_1 t
  have h1 := tellRs_len (tN t) l
  have h2 := tellRm_len dl m
  have e1 : ((tellRs (tN t) l).length : Int) ≤ 64 := by omega
  have e2 : ((tellRm dl m).length : Int) ≤ 64 := by omega
  have e3 := idxI_none (tellRs_ok (tN t) h0.1 h0.2 l)
  have e5 : (0 : Int) < ((1 + q % 6 : Nat) : Int) := by omega
  have e6 : (dl || (((tellRm dl m).length : Int) == 0 && !(mo && dl))) = true := by cases dl <;> simp [tellRm]
  simp only [respB, h0.1, h0.2, e1, e2, e3, e5, e6, tellRm_ok, decide_true, Bool.true_and, Bool.and_true]
  rfl
theorem resB_le {r : Rs} (h : rightB r = true) : (resB r r.t.toNat).length ≤ 2000 := by
  obtain ⟨h1, h2, h3, h4, h5, h6⟩ := right_type h
  have e1 := numB_len 1 r.t.toNat (by decide) (by omega)
  have e2 := textB_le 2 r.s (by decide) (by omega)
  have e3 := numB_len 3 r.q (by decide) (by omega)
  have e4 := numB_len 4 1 (by decide) (by decide)
  have e5 := textB_le 5 r.b (by decide) (by omega)
  unfold resB
  split <;> split <;> simp only [List.length_append, List.length_nil] <;> omega
theorem rsB_le : ∀ rs : List Rs, (∀ r ∈ rs, rightB r = true) → (rsB rs).length ≤ rs.length * 2020
  | [], _ => by simp [rsB]
  | r :: rs, h => by
    have h1 := resB_le (h r (by simp))
    have h2 := textB_le 5 (resB r r.t.toNat) (by decide) (by omega)
    have h3 := rsB_le rs (fun x hx => h x (by simp [hx]))
    have e : rsB (r :: rs) = textB 5 (resB r r.t.toNat) ++ rsB rs := rfl
    rw [e, List.length_append, List.length_cons]; omega
theorem respB_spec {t : Int} {dl mo : Bool} {q : Nat} {rs : List Rs} {rm : List (List UInt8)} (h : respB t dl mo q rs rm = true) :
    1 ≤ t ∧ t ≤ 5 ∧ 0 < q ∧ rs.length ≤ 64 ∧ (∀ r ∈ rs, rightB r = true ∧ r.t = t ∧ r.g = false) ∧ rm.length ≤ 64 ∧ (∀ s ∈ rm, s.length ≤ 64) := by
  simp only [respB, Bool.and_eq_true, decide_eq_true_eq, List.all_eq_true, Bool.not_eq_true'] at h
  obtain ⟨⟨h1, h2⟩, h3, h4, h5, ⟨h6, h7⟩, _⟩ := h
  refine ⟨h1, h2, by omega, by omega, fun r hr => ?_, by omega, fun s hs => nameB_len (h7 s hs)⟩
  have hw : wrongB t r = false := by
    cases hw : wrongB t r with
    | false => rfl
    | true =>
      have := idxI_some hr hw
      rw [decide_eq_true this] at h5; cases h5
  simp only [wrongB, Bool.or_eq_false_iff, Bool.not_eq_false', bne_eq_false_iff_eq] at hw
  exact ⟨hw.1, hw.2.1, hw.2.2⟩
theorem putResp_ctr (t : Int) (dl mo : Bool) (q v : Nat) (rs : List Rs) (rm : List (List UInt8)) (hq : q < 18446744073709551616) (hv : v < 18446744073709551616) (hms : rs.length ≤ 1099511627776) (hs : ∀ r ∈ rs, r.s.length ≤ 9223372036854775807) (h2 : rm.length ≤ 1099511627776) (b2 : ∀ s ∈ rm, s.length ≤ 9223372036854775807) :
    Ctr Tryz.prog [] 31 [mrow rs, srow rm] [.one (.agg [.v (.int .i64 t), .v (.bool dl), .v (.bool mo), .v (.int .u64 q), .v (.int .u64 v), .row 0, .row 1])]
      (fun os u => os = [mrow rs, srow rm] ∧ u = .tup [.c (.v (.string (B (if respB t dl mo q rs rm then respBytes t.toNat dl mo q v rs rm else [])))), .c (.v (.bool (respB t dl mo q rs rm)))]) := by
  cases h : respB t dl mo q rs rm with
  | false => exact putResp_no t dl mo q v rs rm hms hs h2 b2 h
  | true =>
    obtain ⟨g1, g2, g3, g4, g5, g6, g7⟩ := respB_spec h
    obtain ⟨n, rfl⟩ : ∃ n : Nat, t = n := ⟨t.toNat, by omega⟩
    have c1 := rsB_le rs (fun r hr => (g5 r hr).1)
    have c2 := textsB_le 6 (by decide) rm g7
    exact putResp_yes n dl mo q v rs rm (by omega) hq hv hms h2 (fun r hr => (g5 r hr).1) (fun r hr => (right_type (g5 r hr).1).2.2.1) (fun r hr => resB_le (g5 r hr).1) (fun s hs => by have := g7 s hs; omega) (by omega) (by omega) h
def rF (rs : List Rs) : List NW.Fld := rs.map fun r => ⟨5, 2, 0, resB r r.t.toNat⟩
theorem encs_rF : ∀ rs : List Rs, NW.encs (rF rs) = rsB rs
  | [] => rfl
  | r :: rs => by
    have e : NW.encs (rF (r :: rs)) = (⟨5, 2, 0, resB r r.t.toNat⟩ : NW.Fld).enc ++ NW.encs (rF rs) := rfl
    have e2 : rsB (r :: rs) = textB 5 (resB r r.t.toNat) ++ rsB rs := rfl
    rw [e, e2, encs_rF rs]; simp [NW.Fld.enc, textB]
theorem rF_ok {rs : List Rs} (hs : ∀ r ∈ rs, rightB r = true) : ∀ f ∈ rF rs, f.Ok := by
  intro f hf
  obtain ⟨r, h, rfl⟩ := List.mem_map.1 hf
  have := resB_le (hs r h)
  exact ⟨by show 1 ≤ 5; decide, by show 5 < _; decide, .inr (.inr (.inl ⟨rfl, by show (resB r r.t.toNat).length < _; omega, rfl⟩))⟩
theorem takeP5 : ∀ (rs : List Rs) (m : RpS), (∀ r ∈ rs, rightB r = true) → takeX stepP (rF rs) m = ({ m with rs := m.rs ++ rs }, true)
  | [], m, _ => by simp [rF, takeX]
  | r :: rs, m, h => by
    have hb := resR_put (h r (by simp))
    have e1 : stepP ⟨5, 2, 0, resB r r.t.toNat⟩ m = ({ m with rs := m.rs ++ [r] }, true) := by
      show ({ m with rs := m.rs ++ [(resR (resB r r.t.toNat)).getD z0] }, (resR (resB r r.t.toNat)).isSome) = _
      rw [hb]; rfl
    have e : takeX stepP (rF (r :: rs)) m = if (stepP ⟨5, 2, 0, resB r r.t.toNat⟩ m).2 = true then takeX stepP (rF rs) (stepP ⟨5, 2, 0, resB r r.t.toNat⟩ m).1 else ((stepP ⟨5, 2, 0, resB r r.t.toNat⟩ m).1, false) := rfl
    rw [e, e1, if_pos rfl, takeP5 rs _ (fun y hy => h y (by simp [hy]))]; simp
theorem takeP6 : ∀ (xs : List (List UInt8)) (m : RpS), takeX stepP (lF 6 xs) m = ({ m with rm := m.rm ++ xs }, true)
  | [], m => by simp [lF, takeX]
  | s :: xs, m => by
    have e : takeX stepP (lF 6 (s :: xs)) m = takeX stepP (lF 6 xs) { m with rm := m.rm ++ [s] } := rfl
    rw [e, takeP6 xs]; simp
theorem takePExt : ∀ (l : List NW.Fld) (m : RpS), (∀ f ∈ l, 8 ≤ f.num) → takeX stepP l m = (m, true)
  | [], m, _ => rfl
  | f :: l, m, h => by
    have h8 := h f (by simp)
    have e1 : stepP f m = (m, true) := by
      unfold stepP
      rw [if_neg (by omega), if_neg (by omega), if_neg (by omega), if_neg (by omega), if_neg (by omega), if_neg (by omega), if_neg (by omega)]
    rw [takeX, e1, if_pos rfl]; exact takePExt l m (fun g hg => h g (by simp [hg]))
def respFlds (t : Nat) (dl mo : Bool) (q v : Nat) (rs : List Rs) (rm : List (List UInt8)) : List NW.Fld :=
  nF 1 t ++ (bF 2 dl ++ (nF 3 q ++ (nF 4 v ++ (rF rs ++ (lF 6 rm ++ bF 7 mo)))))
theorem respBytes_encs (t : Nat) (dl mo : Bool) (q v : Nat) (rs : List Rs) (rm : List (List UInt8)) : respBytes t dl mo q v rs rm = 2 :: NW.encs (respFlds t dl mo q v rs rm) := by
  simp only [respBytes, respHead, respFlds, encs_app, encs_nF, encs_bF, encs_lF, encs_rF, List.cons_append, List.append_assoc]
theorem respFlds_ok {t : Nat} {dl mo : Bool} {q v : Nat} {rs : List Rs} {rm : List (List UInt8)} (hq : q < 18446744073709551616) (hv : v < 18446744073709551616) (h : respB (t : Int) dl mo q rs rm = true) : ∀ f ∈ respFlds t dl mo q v rs rm, f.Ok := by
  obtain ⟨g1, g2, g3, g4, g5, g6, g7⟩ := respB_spec h
  intro f hf
  simp only [respFlds, List.mem_append] at hf
  rcases hf with hf | hf | hf | hf | hf | hf | hf
  · exact nF_ok (by decide) (by decide) (by omega) f hf
  · exact bF_ok (by decide) (by decide) f hf
  · exact nF_ok (by decide) (by decide) hq f hf
  · exact nF_ok (by decide) (by decide) hv f hf
  · exact rF_ok (fun r hr => (g5 r hr).1) f hf
  · exact lF_ok (by decide) (by decide) (fun s hs => by have := g7 s hs; omega) f hf
  · exact bF_ok (by decide) (by decide) f hf
theorem respR_more {t : Nat} {dl mo : Bool} {q v : Nat} {rs : List Rs} {rm : List (List UInt8)} (hq : q < 18446744073709551616) (hv : v < 18446744073709551616) (h : respB (t : Int) dl mo q rs rm = true)
    (ext : List NW.Fld) (hx : ∀ f ∈ ext, f.Ok ∧ 8 ≤ f.num) : respR (respBytes t dl mo q v rs rm ++ NW.encs ext) = some ⟨t, if dl then 1 else 0, if mo then 1 else 0, q, v, rs, rm⟩ := by
  obtain ⟨g1, g2, g3, g4, g5, g6, g7⟩ := respB_spec h
  have e : respBytes t dl mo q v rs rm ++ NW.encs ext = 2 :: NW.encs (respFlds t dl mo q v rs rm ++ ext) := by
    rw [respBytes_encs, encs_app, List.cons_append]
  have hk : kindL (2 :: NW.encs (respFlds t dl mo q v rs rm ++ ext)) = 2 := rfl
  have hok : ∀ f ∈ respFlds t dl mo q v rs rm ++ ext, f.Ok := by
    intro f hf
    rcases List.mem_append.1 hf with hf | hf
    · exact respFlds_ok hq hv h f hf
    · exact (hx f hf).1
  have s1 : takeX stepP (nF 1 t) .zero = (⟨t, 0, 0, 0, 0, [], []⟩, true) := by rw [nF, if_neg (by omega)]; rfl
  have s2 : takeX stepP (bF 2 dl) ⟨t, 0, 0, 0, 0, [], []⟩ = (⟨t, if dl then 1 else 0, 0, 0, 0, [], []⟩, true) := by cases dl <;> rfl
  have s3 : takeX stepP (nF 3 q) ⟨t, if dl then 1 else 0, 0, 0, 0, [], []⟩ = (⟨t, if dl then 1 else 0, 0, q, 0, [], []⟩, true) := by
    unfold nF; split
    · subst q; rfl
    · rfl
  have s4 : takeX stepP (nF 4 v) ⟨t, if dl then 1 else 0, 0, q, 0, [], []⟩ = (⟨t, if dl then 1 else 0, 0, q, v, [], []⟩, true) := by
    unfold nF; split
    · subst v; rfl
    · rfl
  have s7 : takeX stepP (bF 7 mo) ⟨t, if dl then 1 else 0, 0, q, v, rs, rm⟩ = (⟨t, if dl then 1 else 0, if mo then 1 else 0, q, v, rs, rm⟩, true) := by cases mo <;> rfl
  have hp : takeXB stepP ((2 :: NW.encs (respFlds t dl mo q v rs rm ++ ext)).drop 1) .zero = (⟨t, if dl then 1 else 0, if mo then 1 else 0, q, v, rs, rm⟩, true) := by
    rw [List.drop_succ_cons, List.drop_zero, takeXB, NW.parse_encs' _ hok]
    show takeX stepP (respFlds t dl mo q v rs rm ++ ext) .zero = _
    simp only [respFlds, List.append_assoc]
    rw [takeX_app _ s1, takeX_app _ s2, takeX_app _ s3, takeX_app _ s4, takeX_app _ (takeP5 rs _ (fun r hr => (g5 r hr).1)), takeX_app _ (takeP6 rm _)]
    simp only [List.nil_append]
    rw [takeX_app _ s7, takePExt ext _ (fun f hf => (hx f hf).2)]
  have hm : ((min t 6 : Nat) : Int) = (t : Int) := by omega
  have hdl : (((if dl then 1 else 0 : Nat) : Int) == 1) = dl := by cases dl <;> rfl
  have hmo : (((if mo then 1 else 0 : Nat) : Int) == 1) = mo := by cases mo <;> rfl
  rw [e, respR, if_pos hk, hp]
  simp only [okP, hm, hdl, hmo, h, Bool.and_true]
  rw [if_pos]
  exact ⟨trivial, by cases dl <;> cases mo <;> rfl⟩
theorem name_any (n : Nat) (hn : n < 256) (w : World) : Calls Tryz.prog 21 #[.int .u8 n] w fun x w' => x = .returned (.string (B (nameL n))) ∧ Below w.heap.size w w' := by
  refine (ctr_calls (name_ctr n hn) w (fun p hp => by cases hp) (vals := [.int .u8 n]) ⟨rfl, trivial⟩).mono ?_
  rintro x w' ⟨v, os', s, σ', rfl, ⟨rfl, rfl⟩, hd, hb⟩
  have hd : v = .string (B (nameL n)) := hd
  subst hd
  exact ⟨rfl, hb⟩
structure FarLM (X : Ctx) (qL : Option Addr) (L : List UInt8) (qM : Option Addr) (M : List UInt8) : Prop where
  l : FarU X qL L
  m : FarU X qM M
theorem FarLM.under {X X' : Ctx} {qL qM : Option Addr} {L M : List UInt8} (h : FarLM X qL L qM M) (hU : Under X X') : FarLM X' qL L qM M := ⟨h.l.under hU, h.m.under hU⟩
def askC (t : Int) (dl : Bool) (q : Nat) (d : List UInt8) (a0 : Option Addr) (n0 c0 : Nat) (a1 : Option Addr) (n1 c1 : Nat) (a2 : Option Addr) (n2 c2 : Nat) (qL : Option Addr) (L : List UInt8) (cL : Nat) (qM : Option Addr) (MM : List UInt8) (cM : Nat) (u m tn q6 : Int) (M : Nat → Bool) : Cfg :=
  ⟨[(3, bif M 18 then .one (.c (.loc 3 0)) else ddd), (27, bif M 17 then .one (.agg [.v (.int .i64 tn), .v (.bool dl), .v (.int .u64 q6), .row 2, .v (.slice none 0 0), .v (.slice none 0 0), .v (.string (B []))]) else ddd), (26, bif M 16 then .one (.c (.row 2)) else ddd), (25, bif M 15 then vv (.slice qL L.length cL) else ddd), (24, bif M 14 then .one (.c (.loc 0 8)) else ddd), (23, bif M 13 then vv (.int .u64 q6) else ddd), (22, bif M 12 then vv (.int .u64 q) else ddd), (21, bif M 11 then .one (.c (.loc 0 2)) else ddd), (20, bif M 10 then .one (.c (.loc 0 0)) else ddd), (19, bif M 9 then vv (.bool dl) else ddd), (18, bif M 8 then .one (.c (.loc 0 1)) else ddd), (17, bif M 7 then .one (.c (.loc 0 0)) else ddd), (16, bif M 6 then vv (.int .i64 tn) else ddd), (15, bif M 5 then vv (.int .i64 m) else ddd), (14, bif M 4 then vv (.int .u64 m) else ddd), (13, bif M 3 then vv (.int .u64 u) else ddd), (12, bif M 2 then vv (.int .i64 t) else ddd), (11, bif M 1 then .one (.c (.loc 0 0)) else ddd), (10, bif M 0 then .one (.c (.loc 0 0)) else ddd), (1, .one (.c (.loc 0 0))), (2, .one (.c (.loc 1 0)))],
   [.cells [.v (.int .i64 t), .v (.bool dl), .v (.int .u64 q), .v (.slice a0 n0 c0), .v (.slice a1 n1 c1), .v (.slice a2 n2 c2), .v (.string (B d)), .v (.bool true), .v (.slice qL L.length cL), .v (.slice qM MM.length cM)] 29, .cells [.v (.int .i64 0), .v (.bool false), .v (.int .u64 0), .v (.slice none 0 0), .v (.slice none 0 0), .v (.slice none 0 0), .v (.string (B []))] 26, bif M 16 then srow (askSb L) else .gone, bif M 18 then .cells [.v (.int .i64 0), .v (.bool false), .v (.int .u64 0), .v (.slice none 0 0), .v (.slice none 0 0), .v (.slice none 0 0), .v (.string (B []))] 26 else .gone]⟩
theorem ask_ctr (t : Int) (dl : Bool) (q : Nat) (hq : q < 18446744073709551616) (d : List UInt8) (hd : d.length ≤ 9223372036854775807) (a0 : Option Addr) (n0 c0 : Nat) (a1 : Option Addr) (n1 c1 : Nat) (a2 : Option Addr) (n2 c2 : Nat) (qL : Option Addr) (L : List UInt8) (cL : Nat) (qM : Option Addr) (M : List UInt8) (cM : Nat) :
    CtrF Tryz.prog (fun X => FarLM X qL L qM M) 9 [] [.one (.agg [.v (.int .i64 t), .v (.bool dl), .v (.int .u64 q), .v (.slice a0 n0 c0), .v (.slice a1 n1 c1), .v (.slice a2 n2 c2), .v (.string (B d)), .v (.bool true), .v (.slice qL L.length cL), .v (.slice qM M.length cM)])]
      (fun os v => os = [srow (askSb L), srow (askUn dl M), hrow (askHv dl M)] ∧ v = .one (.agg [.v (.int .i64 (tN t)), .v (.bool dl), .v (.int .u64 (q % 6 : Nat)), .row 0, .row 1, .row 2, .v (.string (B (askDet q d)))])) := by
  have hn : ∀ i, ∀ w, Calls Tryz.prog 21 #[.int .u8 (M.getD i 0).toNat] w _ := fun i w => name_any (M.getD i 0).toNat (M.getD i 0).toNat_lt w
  obtain ⟨u, hu⟩ : ∃ u : Int, IntKind.u64.wrap t = u := ⟨_, rfl⟩
  have hu2 : u = t % 18446744073709551616 := by rw [← hu, IntKind.wrap_u64]
  have m0 : 0 ≤ u := by rw [hu2]; omega
  obtain ⟨m, hm⟩ : ∃ m : Int, u.tmod 5 = m := ⟨_, rfl⟩
  have hm2 : m = u % 5 := by rw [← hm, Int.tmod_eq_emod_of_nonneg m0]
  have hm5 : IntKind.i64.wrap m = m := wI64 (by omega) (by omega)
  obtain ⟨tn, htn0⟩ : ∃ tn : Int, (tN t : Int) = tn := ⟨_, rfl⟩
  have htn : IntKind.i64.wrap (1 + m) = tn := by rw [wI64 (by omega) (by omega), ← htn0, tN, hm2, hu2]; omega
  obtain ⟨q6, hq60⟩ : ∃ q6 : Int, ((q % 6 : Nat) : Int) = q6 := ⟨_, rfl⟩
  have hq6 : (q : Int).tmod 6 = q6 := by rw [Int.tmod_eq_emod_of_nonneg (by omega), ← hq60]; omega
  rw [htn0, hq60]
  have hNL : CtrF Tryz.prog (fun X => FarU X qL L) 41 [] [vv (.slice qL L.length cL), vv (.int .i64 12)] (fun os v => os = [srow (askSb L)] ∧ v = .one (.c (.row 0))) := nameList_ctr L qL cL 12 (by decide)
  have hNM : CtrF Tryz.prog (fun X => FarU X qM M) 41 [] [vv (.slice qM M.length cM), vv (.int .i64 6)] (fun os v => os = [srow (askUn true M)] ∧ v = .one (.c (.row 0))) := nameList_ctr M qM cM 6 (by decide)
  have h16 : ∀ i, ((((M.getD i 0).toNat : Int).tmod 16 != 15) = nmK (M.getD i 0)) := fun i => by
    rw [Int.tmod_eq_emod_of_nonneg (by omega), nmK]
    generalize (M.getD i 0).toNat = x
    by_cases h : x % 16 = 15
    · have : (x : Int) % 16 = 15 := by omega
      simp only [h, this]; rfl
    · have : ¬ (x : Int) % 16 = 15 := by omega
      simp only [h, decide_false, Bool.not_false, bne_iff_ne, ne_eq, this, not_false_iff]
  have h4 : ∀ i, IntKind.u8.wrap (((M.getD i 0).toNat : Int).tdiv 4) = (((M.getD i 0).toNat / 4 : Nat) : Int) := fun i => by
    have := (M.getD i 0).toNat_lt
    rw [Int.tdiv_eq_ediv_of_nonneg (by omega), wB8 (by omega) (by omega)]; omega
  have h64 : ∀ i, IntKind.u64.wrap (((M.getD i 0).toNat / 4 : Nat) : Int) = (((M.getD i 0).toNat / 4 : Nat) : Int) := fun i => by
    have := (M.getD i 0).toNat_lt
    exact wU64 (by omega) (by omega)
  have ed : 0 < q6 → askDet q d = d.take ((if 40 < (d.length : Int) then 40 else (d.length : Int)).toNat - 0) := fun h => by
    rw [askDet, if_pos (by omega), Nat.sub_zero]
    split
    · rfl
    · rw [List.take_of_length_le (by omega), List.take_of_length_le (by omega)]
  have ed0 : q6 ≤ 0 → askDet q d = [] := fun h => by rw [askDet, if_neg (by omega)]
  have ehv : ∀ i, (i = 4 ∨ M.length ≤ i) ∧ i ≤ 4 → askHv true M = ((M.take i).filter nmK).map hvN := fun i h => by
    rw [askHv, if_pos rfl]
    rcases h with ⟨rfl | h, h2⟩
    · rfl
    · rw [List.take_of_length_le (i := 4) (by omega), List.take_of_length_le h]
  have hfl : ∀ i, i ≤ 4 → (((M.take i).filter nmK).map hvN).length ≤ 4 := fun i h => by
    rw [List.length_map]
    have := filter_le nmK (M.take i)
    rw [List.length_take] at this
    omega
  have hs1 : ∀ i, i < M.length → nmK (M.getD i 0) = true → hrow (((M.take i).filter nmK).map hvN ++ [hvN (M.getD i 0)]) = hrow (((M.take (i + 1)).filter nmK).map hvN) := fun i hi h => by
    rw [List.take_add_one, List.getElem?_eq_getElem hi, List.filter_append, List.map_append]
    rw [List.getD_eq_getElem?_getD, List.getElem?_eq_getElem hi] at h ⊢
    simp only [Option.getD_some] at h
    simp only [Option.toList_some, List.filter_cons, h, if_true, List.filter_nil, List.map_cons, List.map_nil, Option.getD_some]
  have hs0 : ∀ i, i < M.length → nmK (M.getD i 0) = false → (M.take i).filter nmK = (M.take (i + 1)).filter nmK := fun i hi h => by
    rw [List.take_add_one, List.getElem?_eq_getElem hi, List.filter_append]
    rw [List.getD_eq_getElem?_getD, List.getElem?_eq_getElem hi] at h
    simp only [Option.getD_some] at h
    simp [h]
  refine CtrF.less ?_
  intro X0 hP0 hG0 N0 hN0
  refine CallVC.inline (f := 9) (by rw [hP0]; exact Tryz.func9) rfl Tryz.ntmps9 rfl (by simp) ?_
  intro X K hU hnt hbl hK
  have hP : X.P = Tryz.prog := hU.P.trans hP0
  have hG := hG0.under hU
  have hT := Ty.T9 hP
  simp only [GA, ↓GB, GX, simprocAttr] at hbl ⊢
  have hGL := hG.l
  have hGM := hG.m
  repeat' (first
    | (refine SX.seqK ?_; intro N hN)
    | ((first | (refine SX.ops ?_)); simp only [GA, ↓GB, GX, simprocAttr, hnt, hT])
    | ((first | refine SX.skip ?_ | refine SX.exit ?_ | refine SX.label ?_ | refine SX.ret ?_); try simp only [GA, ↓GB, GX, simprocAttr])
    | (refine hN _ ?_; clear hN N)
    | ((first | refine hK _ _ (FinI.ret3 ?_) | refine hK _ _ (FinI.nrm3 ?_)); simp only [GA, ↓GB, GX, simprocAttr, finP_s, hnt, hT]; refine Done.out ?_)
    | (clear hN N; first | (refine hN _ ?_; clear hN N) | (clear hN N; refine hN _ ?_; clear hN N))
    | ((first | refine SX.cond rfl (fun hb => ?_) (fun hb => ?_) | (refine bif2.mk (fun hb => ?_) (fun hb => ?_) <;> (try simp only [hb, GA, ↓GB, GX, simprocAttr, hnt, hT]))) <;> ((first | cases hb | (simp only [HBs] at hb) | skip) <;> (first | (exfalso; omega) | skip)))
    | (refine SX.block ?_)
    | (refine and_mk ?_ ?_; (focus first | decide | omega | rfl | assumption | (simp only [LBs]; omega) | (simp; done)))
    | (refine And.intro ?_ ?_))
  all_goals (try refine Done.mk ?_)
  refine SX.dia (id := 3) [0, 1, 2, 3, 4, 5, 6, 7, 8, 9, 10, 11, 12, 13, 14, 15, 16, 17, 18] (askC t dl q d a0 n0 c0 a1 n1 c1 a2 n2 c2 qL L cL qM M cM u m tn q6) [.s 19] (askC t dl q d a0 n0 c0 a1 n1 c1 a2 n2 c2 qL L cL qM M cM u m tn q6 (fun _ => true)) ?_ ?_ ?_ ?_ rfl ?_
  · rw [hP]; kernel_rfl
  · kernel_rfl
  · refine Imp.trans (Imp.le [0, 1] (d := ⟨[(1, .one (.c (.loc 0 0))), (2, .one (.c (.loc 1 0)))], [.cells [.v (.int .i64 t), .v (.bool dl), .v (.int .u64 q), .v (.slice a0 n0 c0), .v (.slice a1 n1 c1), .v (.slice a2 n2 c2), .v (.string (B d)), .v (.bool true), .v (.slice qL L.length cL), .v (.slice qM M.length cM)] 29, .cells [.v (.int .i64 0), .v (.bool false), .v (.int .u64 0), .v (.slice none 0 0), .v (.slice none 0 0), .v (.slice none 0 0), .v (.string (B []))] 26]⟩) (by (refine LeR.of ?_ ?_ ?_ ?_ ?_ ?_ ?_ <;> first | (rw [hbl]; decide) | decide | (simp only [GA, ↓GB, GX, simprocAttr, GDs]; done) | (simp only [GA, ↓GB, GX, simprocAttr, GDs]; rfl; done)))) ?_
    refine Imp.trans (Imp.deads [10, 11, 12, 13, 14, 15, 16, 17, 18, 19, 20, 21, 22, 23, 24, 25, 26, 27, 3] (by rw [hnt]; decide)) ?_
    refine Imp.trans Imp.gone ?_
    refine Imp.trans Imp.gone ?_
    exact Imp.refl
  · rintro M i hi hd
    simp only [List.mem_cons, List.not_mem_nil, or_false] at hi
    rcases hi with rfl | rfl | rfl | rfl | rfl | rfl | rfl | rfl | rfl | rfl | rfl | rfl | rfl | rfl | rfl | rfl | rfl | rfl | rfl
    · have n1 : M 1 = false := dN hd rfl 0 rfl rfl hd.un
      have n2 : M 2 = false := dN hd rfl 0 rfl rfl n1
      have n3 : M 3 = false := dN hd rfl 0 rfl rfl n2
      have n4 : M 4 = false := dN hd rfl 0 rfl rfl n3
      have n5 : M 5 = false := dN hd rfl 0 rfl rfl n4
      have n6 : M 6 = false := dN hd rfl 0 rfl rfl n5
      have n17 : M 17 = false := dN hd rfl 0 rfl rfl n6
      have hun := hd.un
      refine ⟨_, rfl, rfl, ?_⟩
      simp only [askC, upd, ↓reduceIte, Nat.reduceEqDiff, reduceCtorEq, hun, n1, n2, n3, n4, n5, n6, n17, CSs, List.nil_append, List.cons_append, simprocAttr]
      refine vcOp_sound ?_
      simp only [GA, ↓GB, GX, simprocAttr, hnt, hT, hu, hm, hm5, htn, hq6]
      repeat' (refine and_mk ?_ ?_; (focus first | decide | omega | rfl | assumption))
      all_goals (refine Imp.le [0, 1, 2, 3] ?_; (refine LeR.of ?_ ?_ ?_ ?_ ?_ ?_ ?_ <;> first | (rw [hbl]; decide) | decide | (simp only [GA, ↓GB, GX, simprocAttr, GDs, CSs]; done)))
    · have m0 : M 0 = true := dD hd rfl 0 rfl rfl
      have n2 : M 2 = false := dN hd rfl 0 rfl rfl hd.un
      have n3 : M 3 = false := dN hd rfl 0 rfl rfl n2
      have n4 : M 4 = false := dN hd rfl 0 rfl rfl n3
      have n5 : M 5 = false := dN hd rfl 0 rfl rfl n4
      have n6 : M 6 = false := dN hd rfl 0 rfl rfl n5
      have n17 : M 17 = false := dN hd rfl 0 rfl rfl n6
      have hun := hd.un
      refine ⟨_, rfl, rfl, ?_⟩
      simp only [askC, upd, ↓reduceIte, Nat.reduceEqDiff, reduceCtorEq, hun, m0, n2, n3, n4, n5, n6, n17, CSs, List.nil_append, List.cons_append, simprocAttr]
      refine vcOp_sound ?_
      simp only [GA, ↓GB, GX, simprocAttr, hnt, hT, hu, hm, hm5, htn, hq6]
      repeat' (refine and_mk ?_ ?_; (focus first | decide | omega | rfl | assumption))
      all_goals (refine Imp.le [0, 1, 2, 3] ?_; (refine LeR.of ?_ ?_ ?_ ?_ ?_ ?_ ?_ <;> first | (rw [hbl]; decide) | decide | (simp only [GA, ↓GB, GX, simprocAttr, GDs, CSs]; done)))
    · have m1 : M 1 = true := dD hd rfl 0 rfl rfl
      have m0 : M 0 = true := dC hd rfl m1 0 rfl rfl
      have n3 : M 3 = false := dN hd rfl 0 rfl rfl hd.un
      have n4 : M 4 = false := dN hd rfl 0 rfl rfl n3
      have n5 : M 5 = false := dN hd rfl 0 rfl rfl n4
      have n6 : M 6 = false := dN hd rfl 0 rfl rfl n5
      have n17 : M 17 = false := dN hd rfl 0 rfl rfl n6
      have hun := hd.un
      refine ⟨_, rfl, rfl, ?_⟩
      simp only [askC, upd, ↓reduceIte, Nat.reduceEqDiff, reduceCtorEq, hun, m1, m0, n3, n4, n5, n6, n17, CSs, List.nil_append, List.cons_append, simprocAttr]
      refine vcOp_sound ?_
      simp only [GA, ↓GB, GX, simprocAttr, hnt, hT, hu, hm, hm5, htn, hq6]
      repeat' (refine and_mk ?_ ?_; (focus first | decide | omega | rfl | assumption))
      all_goals (refine Imp.le [0, 1, 2, 3] ?_; (refine LeR.of ?_ ?_ ?_ ?_ ?_ ?_ ?_ <;> first | (rw [hbl]; decide) | decide | (simp only [GA, ↓GB, GX, simprocAttr, GDs, CSs]; done)))
    · have m2 : M 2 = true := dD hd rfl 0 rfl rfl
      have m1 : M 1 = true := dC hd rfl m2 0 rfl rfl
      have m0 : M 0 = true := dC hd rfl m1 0 rfl rfl
      have n4 : M 4 = false := dN hd rfl 0 rfl rfl hd.un
      have n5 : M 5 = false := dN hd rfl 0 rfl rfl n4
      have n6 : M 6 = false := dN hd rfl 0 rfl rfl n5
      have n17 : M 17 = false := dN hd rfl 0 rfl rfl n6
      have hun := hd.un
      refine ⟨_, rfl, rfl, ?_⟩
      simp only [askC, upd, ↓reduceIte, Nat.reduceEqDiff, reduceCtorEq, hun, m2, m1, m0, n4, n5, n6, n17, CSs, List.nil_append, List.cons_append, simprocAttr]
      refine vcOp_sound ?_
      simp only [GA, ↓GB, GX, simprocAttr, hnt, hT, hu, hm, hm5, htn, hq6]
      repeat' (refine and_mk ?_ ?_; (focus first | decide | omega | rfl | assumption))
      all_goals (refine Imp.le [0, 1, 2, 3] ?_; (refine LeR.of ?_ ?_ ?_ ?_ ?_ ?_ ?_ <;> first | (rw [hbl]; decide) | decide | (simp only [GA, ↓GB, GX, simprocAttr, GDs, CSs]; done)))
    · have m3 : M 3 = true := dD hd rfl 0 rfl rfl
      have m2 : M 2 = true := dC hd rfl m3 0 rfl rfl
      have m1 : M 1 = true := dC hd rfl m2 0 rfl rfl
      have m0 : M 0 = true := dC hd rfl m1 0 rfl rfl
      have n5 : M 5 = false := dN hd rfl 0 rfl rfl hd.un
      have n6 : M 6 = false := dN hd rfl 0 rfl rfl n5
      have n17 : M 17 = false := dN hd rfl 0 rfl rfl n6
      have hun := hd.un
      refine ⟨_, rfl, rfl, ?_⟩
      simp only [askC, upd, ↓reduceIte, Nat.reduceEqDiff, reduceCtorEq, hun, m3, m2, m1, m0, n5, n6, n17, CSs, List.nil_append, List.cons_append, simprocAttr]
      refine vcOp_sound ?_
      simp only [GA, ↓GB, GX, simprocAttr, hnt, hT, hu, hm, hm5, htn, hq6]
      repeat' (refine and_mk ?_ ?_; (focus first | decide | omega | rfl | assumption))
      all_goals (refine Imp.le [0, 1, 2, 3] ?_; (refine LeR.of ?_ ?_ ?_ ?_ ?_ ?_ ?_ <;> first | (rw [hbl]; decide) | decide | (simp only [GA, ↓GB, GX, simprocAttr, GDs, CSs]; done)))
    · have m4 : M 4 = true := dD hd rfl 0 rfl rfl
      have m3 : M 3 = true := dC hd rfl m4 0 rfl rfl
      have m2 : M 2 = true := dC hd rfl m3 0 rfl rfl
      have m1 : M 1 = true := dC hd rfl m2 0 rfl rfl
      have m0 : M 0 = true := dC hd rfl m1 0 rfl rfl
      have n6 : M 6 = false := dN hd rfl 0 rfl rfl hd.un
      have n17 : M 17 = false := dN hd rfl 0 rfl rfl n6
      have hun := hd.un
      refine ⟨_, rfl, rfl, ?_⟩
      simp only [askC, upd, ↓reduceIte, Nat.reduceEqDiff, reduceCtorEq, hun, m4, m3, m2, m1, m0, n6, n17, CSs, List.nil_append, List.cons_append, simprocAttr]
      refine vcOp_sound ?_
      simp only [GA, ↓GB, GX, simprocAttr, hnt, hT, hu, hm, hm5, htn, hq6]
      repeat' (refine and_mk ?_ ?_; (focus first | decide | omega | rfl | assumption))
      all_goals (refine Imp.le [0, 1, 2, 3] ?_; (refine LeR.of ?_ ?_ ?_ ?_ ?_ ?_ ?_ <;> first | (rw [hbl]; decide) | decide | (simp only [GA, ↓GB, GX, simprocAttr, GDs, CSs]; done)))
    · have m5 : M 5 = true := dD hd rfl 0 rfl rfl
      have m4 : M 4 = true := dC hd rfl m5 0 rfl rfl
      have m3 : M 3 = true := dC hd rfl m4 0 rfl rfl
      have m2 : M 2 = true := dC hd rfl m3 0 rfl rfl
      have m1 : M 1 = true := dC hd rfl m2 0 rfl rfl
      have m0 : M 0 = true := dC hd rfl m1 0 rfl rfl
      have n17 : M 17 = false := dN hd rfl 0 rfl rfl hd.un
      have hun := hd.un
      refine ⟨_, rfl, rfl, ?_⟩
      simp only [askC, upd, ↓reduceIte, Nat.reduceEqDiff, reduceCtorEq, hun, m5, m4, m3, m2, m1, m0, n17, CSs, List.nil_append, List.cons_append, simprocAttr]
      refine vcOp_sound ?_
      simp only [GA, ↓GB, GX, simprocAttr, hnt, hT, hu, hm, hm5, htn, hq6]
      repeat' (refine and_mk ?_ ?_; (focus first | decide | omega | rfl | assumption))
      all_goals (refine Imp.le [0, 1, 2, 3] ?_; (refine LeR.of ?_ ?_ ?_ ?_ ?_ ?_ ?_ <;> first | (rw [hbl]; decide) | decide | (simp only [GA, ↓GB, GX, simprocAttr, GDs, CSs]; done)))
    · have n8 : M 8 = false := dN hd rfl 0 rfl rfl hd.un
      have n9 : M 9 = false := dN hd rfl 0 rfl rfl n8
      have n17 : M 17 = false := dN hd rfl 1 rfl rfl n9
      have hun := hd.un
      refine ⟨_, rfl, rfl, ?_⟩
      simp only [askC, upd, ↓reduceIte, Nat.reduceEqDiff, reduceCtorEq, hun, n8, n9, n17, CSs, List.nil_append, List.cons_append, simprocAttr]
      refine vcOp_sound ?_
      simp only [GA, ↓GB, GX, simprocAttr, hnt, hT, hu, hm, hm5, htn, hq6]
      repeat' (refine and_mk ?_ ?_; (focus first | decide | omega | rfl | assumption))
      all_goals (refine Imp.le [0, 1, 2, 3] ?_; (refine LeR.of ?_ ?_ ?_ ?_ ?_ ?_ ?_ <;> first | (rw [hbl]; decide) | decide | (simp only [GA, ↓GB, GX, simprocAttr, GDs, CSs]; done)))
    · have m7 : M 7 = true := dD hd rfl 0 rfl rfl
      have n9 : M 9 = false := dN hd rfl 0 rfl rfl hd.un
      have n17 : M 17 = false := dN hd rfl 1 rfl rfl n9
      have hun := hd.un
      refine ⟨_, rfl, rfl, ?_⟩
      simp only [askC, upd, ↓reduceIte, Nat.reduceEqDiff, reduceCtorEq, hun, m7, n9, n17, CSs, List.nil_append, List.cons_append, simprocAttr]
      refine vcOp_sound ?_
      simp only [GA, ↓GB, GX, simprocAttr, hnt, hT, hu, hm, hm5, htn, hq6]
      repeat' (refine and_mk ?_ ?_; (focus first | decide | omega | rfl | assumption))
      all_goals (refine Imp.le [0, 1, 2, 3] ?_; (refine LeR.of ?_ ?_ ?_ ?_ ?_ ?_ ?_ <;> first | (rw [hbl]; decide) | decide | (simp only [GA, ↓GB, GX, simprocAttr, GDs, CSs]; done)))
    · have m8 : M 8 = true := dD hd rfl 0 rfl rfl
      have m7 : M 7 = true := dC hd rfl m8 0 rfl rfl
      have n17 : M 17 = false := dN hd rfl 1 rfl rfl hd.un
      have hun := hd.un
      refine ⟨_, rfl, rfl, ?_⟩
      simp only [askC, upd, ↓reduceIte, Nat.reduceEqDiff, reduceCtorEq, hun, m8, m7, n17, CSs, List.nil_append, List.cons_append, simprocAttr]
      refine vcOp_sound ?_
      simp only [GA, ↓GB, GX, simprocAttr, hnt, hT, hu, hm, hm5, htn, hq6]
      repeat' (refine and_mk ?_ ?_; (focus first | decide | omega | rfl | assumption))
      all_goals (refine Imp.le [0, 1, 2, 3] ?_; (refine LeR.of ?_ ?_ ?_ ?_ ?_ ?_ ?_ <;> first | (rw [hbl]; decide) | decide | (simp only [GA, ↓GB, GX, simprocAttr, GDs, CSs]; done)))
    · have n11 : M 11 = false := dN hd rfl 0 rfl rfl hd.un
      have n12 : M 12 = false := dN hd rfl 0 rfl rfl n11
      have n13 : M 13 = false := dN hd rfl 0 rfl rfl n12
      have n17 : M 17 = false := dN hd rfl 2 rfl rfl n13
      have hun := hd.un
      refine ⟨_, rfl, rfl, ?_⟩
      simp only [askC, upd, ↓reduceIte, Nat.reduceEqDiff, reduceCtorEq, hun, n11, n12, n13, n17, CSs, List.nil_append, List.cons_append, simprocAttr]
      refine vcOp_sound ?_
      simp only [GA, ↓GB, GX, simprocAttr, hnt, hT, hu, hm, hm5, htn, hq6]
      repeat' (refine and_mk ?_ ?_; (focus first | decide | omega | rfl | assumption))
      all_goals (refine Imp.le [0, 1, 2, 3] ?_; (refine LeR.of ?_ ?_ ?_ ?_ ?_ ?_ ?_ <;> first | (rw [hbl]; decide) | decide | (simp only [GA, ↓GB, GX, simprocAttr, GDs, CSs]; done)))
    · have m10 : M 10 = true := dD hd rfl 0 rfl rfl
      have n12 : M 12 = false := dN hd rfl 0 rfl rfl hd.un
      have n13 : M 13 = false := dN hd rfl 0 rfl rfl n12
      have n17 : M 17 = false := dN hd rfl 2 rfl rfl n13
      have hun := hd.un
      refine ⟨_, rfl, rfl, ?_⟩
      simp only [askC, upd, ↓reduceIte, Nat.reduceEqDiff, reduceCtorEq, hun, m10, n12, n13, n17, CSs, List.nil_append, List.cons_append, simprocAttr]
      refine vcOp_sound ?_
      simp only [GA, ↓GB, GX, simprocAttr, hnt, hT, hu, hm, hm5, htn, hq6]
      repeat' (refine and_mk ?_ ?_; (focus first | decide | omega | rfl | assumption))
      all_goals (refine Imp.le [0, 1, 2, 3] ?_; (refine LeR.of ?_ ?_ ?_ ?_ ?_ ?_ ?_ <;> first | (rw [hbl]; decide) | decide | (simp only [GA, ↓GB, GX, simprocAttr, GDs, CSs]; done)))
    · have m11 : M 11 = true := dD hd rfl 0 rfl rfl
      have m10 : M 10 = true := dC hd rfl m11 0 rfl rfl
      have n13 : M 13 = false := dN hd rfl 0 rfl rfl hd.un
      have n17 : M 17 = false := dN hd rfl 2 rfl rfl n13
      have hun := hd.un
      refine ⟨_, rfl, rfl, ?_⟩
      simp only [askC, upd, ↓reduceIte, Nat.reduceEqDiff, reduceCtorEq, hun, m11, m10, n13, n17, CSs, List.nil_append, List.cons_append, simprocAttr]
      refine vcOp_sound ?_
      simp only [GA, ↓GB, GX, simprocAttr, hnt, hT, hu, hm, hm5, htn, hq6]
      repeat' (refine and_mk ?_ ?_; (focus first | decide | omega | rfl | assumption))
      all_goals (refine Imp.le [0, 1, 2, 3] ?_; (refine LeR.of ?_ ?_ ?_ ?_ ?_ ?_ ?_ <;> first | (rw [hbl]; decide) | decide | (simp only [GA, ↓GB, GX, simprocAttr, GDs, CSs]; done)))
    · have m12 : M 12 = true := dD hd rfl 0 rfl rfl
      have m11 : M 11 = true := dC hd rfl m12 0 rfl rfl
      have m10 : M 10 = true := dC hd rfl m11 0 rfl rfl
      have n17 : M 17 = false := dN hd rfl 2 rfl rfl hd.un
      have hun := hd.un
      refine ⟨_, rfl, rfl, ?_⟩
      simp only [askC, upd, ↓reduceIte, Nat.reduceEqDiff, reduceCtorEq, hun, m12, m11, m10, n17, CSs, List.nil_append, List.cons_append, simprocAttr]
      refine vcOp_sound ?_
      simp only [GA, ↓GB, GX, simprocAttr, hnt, hT, hu, hm, hm5, htn, hq6]
      repeat' (refine and_mk ?_ ?_; (focus first | decide | omega | rfl | assumption))
      all_goals (refine Imp.le [0, 1, 2, 3] ?_; (refine LeR.of ?_ ?_ ?_ ?_ ?_ ?_ ?_ <;> first | (rw [hbl]; decide) | decide | (simp only [GA, ↓GB, GX, simprocAttr, GDs, CSs]; done)))
    · have n15 : M 15 = false := dN hd rfl 0 rfl rfl hd.un
      have n16 : M 16 = false := dN hd rfl 0 rfl rfl n15
      have n17 : M 17 = false := dN hd rfl 3 rfl rfl n16
      have hun := hd.un
      refine ⟨_, rfl, rfl, ?_⟩
      simp only [askC, upd, ↓reduceIte, Nat.reduceEqDiff, reduceCtorEq, hun, n15, n16, n17, CSs, List.nil_append, List.cons_append, simprocAttr]
      refine vcOp_sound ?_
      simp only [GA, ↓GB, GX, simprocAttr, hnt, hT, hu, hm, hm5, htn, hq6]
      repeat' (refine and_mk ?_ ?_; (focus first | decide | omega | rfl | assumption))
      all_goals (refine Imp.le [0, 1, 2, 3] ?_; (refine LeR.of ?_ ?_ ?_ ?_ ?_ ?_ ?_ <;> first | (rw [hbl]; decide) | decide | (simp only [GA, ↓GB, GX, simprocAttr, GDs, CSs]; done)))
    · have m14 : M 14 = true := dD hd rfl 0 rfl rfl
      have n16 : M 16 = false := dN hd rfl 0 rfl rfl hd.un
      have n17 : M 17 = false := dN hd rfl 3 rfl rfl n16
      have hun := hd.un
      refine ⟨_, rfl, rfl, ?_⟩
      simp only [askC, upd, ↓reduceIte, Nat.reduceEqDiff, reduceCtorEq, hun, m14, n16, n17, CSs, List.nil_append, List.cons_append, simprocAttr]
      refine vcOp_sound ?_
      simp only [GA, ↓GB, GX, simprocAttr, hnt, hT, hu, hm, hm5, htn, hq6]
      repeat' (refine and_mk ?_ ?_; (focus first | decide | omega | rfl | assumption))
      all_goals (refine Imp.le [0, 1, 2, 3] ?_; (refine LeR.of ?_ ?_ ?_ ?_ ?_ ?_ ?_ <;> first | (rw [hbl]; decide) | decide | (simp only [GA, ↓GB, GX, simprocAttr, GDs, CSs]; done)))
    · have m15 : M 15 = true := dD hd rfl 0 rfl rfl
      have m14 : M 14 = true := dC hd rfl m15 0 rfl rfl
      have n17 : M 17 = false := dN hd rfl 3 rfl rfl hd.un
      have hun := hd.un
      refine ⟨_, rfl, rfl, ?_⟩
      simp only [askC, upd, ↓reduceIte, Nat.reduceEqDiff, reduceCtorEq, hun, m15, m14, n17, CSs, List.nil_append, List.cons_append, simprocAttr]
      refine vcOp_sound ?_
      simp only [GA, ↓GB, GX, simprocAttr, hnt, hT, hu, hm, hm5, htn, hq6]
      repeat' (first
        | (refine SX.seqK ?_; intro N hN)
        | ((first | (refine SX.ops ?_)); simp only [GA, ↓GB, GX, simprocAttr, hnt, hT, hu, hm, hm5, htn, hq6])
        | ((first | refine SX.skip ?_ | refine SX.exit ?_ | refine SX.label ?_ | refine SX.ret ?_); try simp only [GA, ↓GB, GX, simprocAttr])
        | (refine hN _ ?_; clear hN N)
        | ((first | refine hK _ _ (FinI.ret3 ?_) | refine hK _ _ (FinI.nrm3 ?_)); simp only [GA, ↓GB, GX, simprocAttr, finP_s, hnt, hT, hu, hm, hm5, htn, hq6]; refine Done.out ?_)
        | (clear hN N; first | (refine hN _ ?_; clear hN N) | (clear hN N; refine hN _ ?_; clear hN N))
        | ((first | refine SX.cond rfl (fun hb => ?_) (fun hb => ?_) | (refine bif2.mk (fun hb => ?_) (fun hb => ?_) <;> (try simp only [hb, GA, ↓GB, GX, simprocAttr, hnt, hT, hu, hm, hm5, htn, hq6]))) <;> ((first | cases hb | (simp only [HBs] at hb) | skip) <;> (first | (exfalso; omega) | skip)))
        | ((first | (refine CtrF.use (hNL) hP (fun X' hU => hGL.under hU) [] ?_ rfl rfl ?_; (focus (refine LeR.of rfl trivial ?_ ?_ ?_ ?_ ?_ <;> first | decide | (simp only [GA, ↓GB, GX, simprocAttr, GDs]; done))); intro os' s hR; obtain ⟨rfl, rfl⟩ := hR)); simp only [GA, ↓GB, GX, simprocAttr, hnt, hT, hu, hm, hm5, htn, hq6])
        | (refine SX.block ?_)
        | (refine and_mk ?_ ?_; (focus first | decide | omega | rfl | assumption | (simp only [LBs]; omega) | (simp; done)))
        | (refine And.intro ?_ ?_))
      all_goals (try refine Done.mk ?_)
      all_goals (refine Imp.le [0, 1, 4, 3] ?_; (refine LeR.of ?_ ?_ ?_ ?_ ?_ ?_ ?_ <;> first | (rw [hbl]; decide) | decide | (simp only [GA, ↓GB, GX, simprocAttr, GDs, CSs]; done)))
    · have m6 : M 6 = true := dD hd rfl 0 rfl rfl
      have m9 : M 9 = true := dD hd rfl 1 rfl rfl
      have m13 : M 13 = true := dD hd rfl 2 rfl rfl
      have m16 : M 16 = true := dD hd rfl 3 rfl rfl
      have m5 : M 5 = true := dC hd rfl m6 0 rfl rfl
      have m8 : M 8 = true := dC hd rfl m9 0 rfl rfl
      have m12 : M 12 = true := dC hd rfl m13 0 rfl rfl
      have m15 : M 15 = true := dC hd rfl m16 0 rfl rfl
      have m4 : M 4 = true := dC hd rfl m5 0 rfl rfl
      have m7 : M 7 = true := dC hd rfl m8 0 rfl rfl
      have m11 : M 11 = true := dC hd rfl m12 0 rfl rfl
      have m14 : M 14 = true := dC hd rfl m15 0 rfl rfl
      have m3 : M 3 = true := dC hd rfl m4 0 rfl rfl
      have m10 : M 10 = true := dC hd rfl m11 0 rfl rfl
      have m2 : M 2 = true := dC hd rfl m3 0 rfl rfl
      have m1 : M 1 = true := dC hd rfl m2 0 rfl rfl
      have m0 : M 0 = true := dC hd rfl m1 0 rfl rfl
      have hun := hd.un
      refine ⟨_, rfl, rfl, ?_⟩
      simp only [askC, upd, ↓reduceIte, Nat.reduceEqDiff, reduceCtorEq, hun, m6, m9, m13, m16, m5, m8, m12, m15, m4, m7, m11, m14, m3, m10, m2, m1, m0, CSs, List.nil_append, List.cons_append, simprocAttr]
      refine vcOp_sound ?_
      simp only [GA, ↓GB, GX, simprocAttr, hnt, hT, hu, hm, hm5, htn, hq6]
      repeat' (refine and_mk ?_ ?_; (focus first | decide | omega | rfl | assumption))
      all_goals (refine Imp.le [0, 1, 2, 3] ?_; (refine LeR.of ?_ ?_ ?_ ?_ ?_ ?_ ?_ <;> first | (rw [hbl]; decide) | decide | (simp only [GA, ↓GB, GX, simprocAttr, GDs, CSs]; done)))
    · skip
      have hun := hd.un
      refine ⟨_, rfl, rfl, ?_⟩
      simp only [askC, upd, ↓reduceIte, Nat.reduceEqDiff, reduceCtorEq, hun, CSs, List.nil_append, List.cons_append, simprocAttr]
      refine vcOp_sound ?_
      simp only [GA, ↓GB, GX, simprocAttr, hnt, hT, hu, hm, hm5, htn, hq6]
      repeat' (refine and_mk ?_ ?_; (focus first | decide | omega | rfl | assumption))
      all_goals (refine Imp.le [0, 1, 2, 4] ?_; (refine LeR.of ?_ ?_ ?_ ?_ ?_ ?_ ?_ <;> first | (rw [hbl]; decide) | decide | (simp only [GA, ↓GB, GX, simprocAttr, GDs, CSs]; done)))
  simp only [askC, cond_true, GA, ↓GB, GX, simprocAttr, hnt, hT]
  repeat' (first
    | (refine SX.nilAt (j := 3) (k := 4) 9 1 rfl rfl ?_)
    | (refine SX.nilAt (j := 3) (k := 5) 91 2 rfl rfl ?_)
    | (refine uBlk (id := 1) (i := i) hGM (by omega) (fun ad hE D => ?_) <;> subst hE)
    | (refine SX.seqK ?_; intro N hN)
    | ((first | (refine SX.ops ?_) | (refine SX.planT (id := 10) [.q [(0, [3]), (1, [52]), (2, [1]), (3, [54]), (4, [4]), (5, [55, 56]), (6, [57]), (7, [58]), (8, [1]), (9, [60]), (10, [4]), (11, [61, 62]), (12, [63]), (13, [64]), (14, [65]), (15, [59, 66])] (some (16, [67])), .s 17, .s 18, .s 19] ?_ ?_ ?_; (focus first | (rw [hP]; kernel_rfl) | (rw [hU1P, hP]; kernel_rfl)); (focus kernel_rfl))); simp only [GA, ↓GB, GX, simprocAttr, hnt, hT, h16, h4, h64])
    | ((first | refine SX.skip ?_ | refine SX.exit ?_ | refine SX.label ?_ | refine SX.ret ?_); try simp only [GA, ↓GB, GX, simprocAttr])
    | (refine hN _ ?_; clear hN N)
    | ((first | refine hK _ _ (FinI.ret3 ?_) | refine hK _ _ (FinI.nrm3 ?_)); simp only [GA, ↓GB, GX, simprocAttr, finP_s, hnt, hT, h16, h4, h64]; refine Done.out ?_)
    | (clear hN N; first | (refine hN _ ?_; clear hN N) | (clear hN N; refine hN _ ?_; clear hN N))
    | ((first | refine SX.cond rfl (fun hb => ?_) (fun hb => ?_) | (refine bif2.mk (fun hb => ?_) (fun hb => ?_) <;> (try simp only [hb, GA, ↓GB, GX, simprocAttr, hnt, hT, h16, h4, h64]))) <;> ((first | cases hb | (simp only [HBs] at hb) | skip) <;> (first | (exfalso; omega) | skip)))
    | ((first | (refine CtrF.use (hNM) hP (fun X' hU => hGM.under hU) [] ?_ rfl rfl ?_; (focus (refine LeR.of rfl trivial ?_ ?_ ?_ ?_ ?_ <;> first | decide | (simp only [GA, ↓GB, GX, simprocAttr, GDs]; done))); intro os' s hR; obtain ⟨rfl, rfl⟩ := hR) | (refine CallVC.pv hP (hn i) rfl ?_) | (refine CallQ.pv hP (hn i) rfl ?_)); simp only [GA, ↓GB, GX, simprocAttr, hnt, hT, h16, h4, h64])
    | (refine ⟨_, D.cell, ?_⟩ <;> (try simp only [GA, ↓GB, GX, simprocAttr, hnt, hT]))
    | (rw [add_block] <;> exact D.own)
    | (refine SX.loop (ι := { i : Nat // i ≤ M.length ∧ i ≤ 4 }) (fun i => ⟨[(1, .one (.c (.loc 0 0))), (2, .one (.c (.loc 1 0))), (3, .one (.c (.loc 3 0))), (4, vv (.int .i64 i.1))], [.cells [.v (.int .i64 t), .v (.bool true), .v (.int .u64 q), .v (.slice a0 n0 c0), .v (.slice a1 n1 c1), .v (.slice a2 n2 c2), .v (.string (B d)), .v (.bool true), .v (.slice qL L.length cL), .v (.slice qM M.length cM)] 29, .cells [.v (.int .i64 0), .v (.bool false), .v (.int .u64 0), .v (.slice none 0 0), .v (.slice none 0 0), .v (.slice none 0 0), .v (.string (B []))] 26, srow (askSb L), .cells [.v (.int .i64 tn), .v (.bool true), .v (.int .u64 q6), .row 2, .row 4, .row 5, .v (.string (B []))] 26, srow (askUn true M), hrow (((M.take i.1).filter nmK).map hvN)]⟩) (fun i => M.length - i.1) ⟨0, Nat.zero_le _, Nat.zero_le _⟩ ⟨[0, 1, 2, 3, 6, 5], by (refine LeR.of ?_ ?_ ?_ ?_ ?_ ?_ ?_ <;> first | (rw [hbl]; decide) | decide | (simp only [GA, ↓GB, GX, simprocAttr, GDs]; done) | (simp only [GA, ↓GB, GX, simprocAttr, GDs]; rfl; done))⟩ ?_ <;> rintro ⟨i, hi, hi2⟩ <;> simp only [] at hi hi2 ⊢)
    | (refine SX.block ?_)
    | (refine and_mk ?_ ?_; (focus first | decide | omega | rfl | assumption | (simp only [LBs]; omega) | (simp; done)))
    | (refine And.intro ?_ ?_))
  all_goals (try refine Done.mk ?_)
  · have := hfl i (by omega)
    omega
  · have hn2 : nmK (M.getD i 0) = true := by rw [← h16 i]; simpa using hb
    have e := hrow_snoc (((M.take i).filter nmK).map hvN) (hvN (M.getD i 0))
    rw [hs1 i (by omega) hn2] at e
    exact ⟨⟨i + 1, by omega, by omega⟩, [0, 1, 2, 3, 4, 7], by (refine LeR.of ?_ ?_ ?_ ?_ ?_ ?_ ?_ <;> first | (rw [hbl]; decide) | decide | (simp only [GA, ↓GB, GX, simprocAttr, GDs]; done) | (simp only [GA, ↓GB, GX, simprocAttr, GDs]; first | (rw [wI64 (by omega) (by omega)]; rfl) | exact e | (refine ⟨e, ?_⟩; rfl) | rfl; done)), by show M.length - (i + 1) < M.length - i; omega⟩
  · have hn2 : nmK (M.getD i 0) = false := by rw [← h16 i]; exact hb
    have e := hs0 i (by omega) hn2
    exact ⟨⟨i + 1, by omega, by omega⟩, [0, 1, 2, 3, 4, 5], by (refine LeR.of ?_ ?_ ?_ ?_ ?_ ?_ ?_ <;> first | (rw [hbl]; decide) | decide | (simp only [GA, ↓GB, GX, simprocAttr, GDs]; done) | (simp only [GA, ↓GB, GX, simprocAttr, GDs]; first | (rw [wI64 (by omega) (by omega)]; rfl) | (rw [e]; done) | (rw [← e]; rfl) | rfl; done)), by show M.length - (i + 1) < M.length - i; omega⟩
  all_goals
    first
      | rw [ed hb] at hN0
      | rw [ed0 hb] at hN0
    first
      | (rw [ehv i (by omega)] at hN0; (refine hN0 _ _ ⟨[2, 4, 5], _, _, ?_, ?_, ?_, ⟨rfl, rfl⟩⟩; (focus exact LeR.of rfl trivial (by simp only [GA, ↓GB, GX, simprocAttr, GDs]) (by decide) rfl rfl rfl); rotate_left; (focus rfl)); rfl)
      | (rw [show askUn false M = [] from rfl, show askHv false M = [] from rfl, show hrow [] = LO.row 91 2 0 [] from rfl] at hN0; (refine hN0 _ _ ⟨[2, 4, 5], _, _, ?_, ?_, ?_, ⟨rfl, rfl⟩⟩; (focus exact LeR.of rfl trivial (by simp only [GA, ↓GB, GX, simprocAttr, GDs]) (by decide) rfl rfl rfl); rotate_left; (focus rfl)); rfl)
theorem tell_t (t : Int) (dl : Bool) (q v : Nat) (hq : q < 18446744073709551616) (a0 : Option Addr) (n0 c0 : Nat) (a1 : Option Addr) (n1 c1 : Nat) (qL : Option Addr) (L : List UInt8) (cL : Nat) (qM : Option Addr) (M : List UInt8) (cM : Nat) :
    CtrF Tryz.prog (fun X => FarLM X qL L qM M) 30 [] [.one (.agg [.v (.int .i64 t), .v (.bool dl), .v (.bool true), .v (.int .u64 q), .v (.int .u64 v), .v (.slice a0 n0 c0), .v (.slice a1 n1 c1), .v (.bool true), .v (.slice qL L.length cL), .v (.slice qM M.length cM)])]
      (fun os u => os = [mrow (tellRs (tN t) L), srow (tellRm dl M)] ∧ u = .one (.agg [.v (.int .i64 (tN t)), .v (.bool dl), .v (.bool dl), .v (.int .u64 (1 + q % 6 : Nat)), .v (.int .u64 v), .row 0, .row 1])) := by
  have hn1 : ∀ i, ∀ w, Calls Tryz.prog 21 #[.int .u8 (L.getD i 0).toNat] w _ := fun i w => name_any (L.getD i 0).toNat (L.getD i 0).toNat_lt w
  have hn : ∀ i, ∀ w, Calls Tryz.prog 21 #[.int .u8 (M.getD i 0).toNat] w _ := fun i w => name_any (M.getD i 0).toNat (M.getD i 0).toNat_lt w
  obtain ⟨u, hu⟩ : ∃ u : Int, IntKind.u64.wrap t = u := ⟨_, rfl⟩
  have hu2 : u = t % 18446744073709551616 := by rw [← hu, IntKind.wrap_u64]
  have m0 : 0 ≤ u := by rw [hu2]; omega
  obtain ⟨m, hm⟩ : ∃ m : Int, u.tmod 5 = m := ⟨_, rfl⟩
  have hm2 : m = u % 5 := by rw [← hm, Int.tmod_eq_emod_of_nonneg m0]
  have hm5 : IntKind.i64.wrap m = m := wI64 (by omega) (by omega)
  obtain ⟨tn, htn0⟩ : ∃ tn : Int, (tN t : Int) = tn := ⟨_, rfl⟩
  have htn : IntKind.i64.wrap (1 + m) = tn := by rw [wI64 (by omega) (by omega), ← htn0, tN, hm2, hu2]; omega
  obtain ⟨q7, hq70⟩ : ∃ q7 : Int, ((1 + q % 6 : Nat) : Int) = q7 := ⟨_, rfl⟩
  have hq6 : (q : Int).tmod 6 = ((q % 6 : Nat) : Int) := by rw [Int.tmod_eq_emod_of_nonneg (by omega)]; omega
  have hq7 : IntKind.u64.wrap (1 + ((q % 6 : Nat) : Int)) = q7 := by rw [wU64 (by omega) (by omega), ← hq70]; omega
  rw [htn0, hq70]
  have k16 : ∀ x : UInt8, (((x.toNat : Int).tmod 16 != 15) = nmK x) := fun x => by
    rw [Int.tmod_eq_emod_of_nonneg (by omega), nmK]
    generalize x.toNat = x
    by_cases h : x % 16 = 15
    · have : (x : Int) % 16 = 15 := by omega
      simp only [h, this]; rfl
    · have : ¬ (x : Int) % 16 = 15 := by omega
      simp only [h, decide_false, Bool.not_false, bne_iff_ne, ne_eq, this, not_false_iff]
  have hL16 : ∀ i, (((L.getD i 0).toNat : Int).tmod 16 != 15) = nmK (L.getD i 0) := fun i => k16 _
  have h16 : ∀ i, (((M.getD i 0).toNat : Int).tmod 16 != 15) = nmK (M.getD i 0) := fun i => k16 _
  have h8 : ∀ i, IntKind.u8.wrap (((L.getD i 0).toNat : Int).tdiv 8) = (((L.getD i 0).toNat / 8 : Nat) : Int) := fun i => by
    have := (L.getD i 0).toNat_lt
    rw [Int.tdiv_eq_ediv_of_nonneg (by omega), wB8 (by omega) (by omega)]; omega
  have h64 : ∀ i, IntKind.u64.wrap (((L.getD i 0).toNat / 8 : Nat) : Int) = (((L.getD i 0).toNat / 8 : Nat) : Int) := fun i => by
    have := (L.getD i 0).toNat_lt
    exact wU64 (by omega) (by omega)
  have h65 : ∀ i, IntKind.u64.wrap (1 + (((L.getD i 0).toNat / 8 : Nat) : Int)) = ((1 + (L.getD i 0).toNat / 8 : Nat) : Int) := fun i => by
    have := (L.getD i 0).toNat_lt
    rw [wU64 (by omega) (by omega)]; omega
  have tk : ∀ (M : List UInt8) i, i < M.length → nmK (M.getD i 0) = true → (M.take (i + 1)).filter nmK = (M.take i).filter nmK ++ [M.getD i 0] := fun M i hi h => by
    rw [List.take_add_one, List.getElem?_eq_getElem hi, List.filter_append]
    rw [List.getD_eq_getElem?_getD, List.getElem?_eq_getElem hi] at h ⊢
    simp only [Option.getD_some] at h
    simp only [Option.toList_some, List.filter_cons, h, if_true, List.filter_nil, Option.getD_some]
  have tk0 : ∀ (M : List UInt8) i, i < M.length → nmK (M.getD i 0) = false → (M.take i).filter nmK = (M.take (i + 1)).filter nmK := fun M i hi h => by
    rw [List.take_add_one, List.getElem?_eq_getElem hi, List.filter_append]
    rw [List.getD_eq_getElem?_getD, List.getElem?_eq_getElem hi] at h
    simp only [Option.getD_some] at h
    simp [h]
  have hfl : ∀ (M : List UInt8) i k, i ≤ k → ((M.take i).filter nmK).length ≤ k := fun M i k h => by
    have := filter_le nmK (M.take i)
    rw [List.length_take] at this
    omega
  have ers : ∀ i, (i = 12 ∨ L.length ≤ i) ∧ i ≤ 12 → tellRs tn L = ((L.take i).filter nmK).map (rsN tn) := fun i h => by
    rw [tellRs]
    rcases h with ⟨rfl | h, h2⟩
    · rfl
    · rw [List.take_of_length_le (i := 12) (by omega), List.take_of_length_le h]
  have erm : ∀ i, (dl = false → i = 0) → (dl = false ∨ i = 6 ∨ M.length ≤ i) → i ≤ 6 → tellRm dl M = ((M.take i).filter nmK).map nmV := fun i h0 h h2 => by
    cases dl with
    | false => rw [h0 rfl]; rfl
    | true =>
      rcases h with h | rfl | h
      · cases h
      · rfl
      · rw [tellRm, if_pos rfl, List.take_of_length_le (i := 6) (by omega), List.take_of_length_le h]
  refine CtrF.less ?_
  intro X0 hP0 hG0 N0 hN0
  refine CallVC.inline (f := 30) (by rw [hP0]; exact Tryz.func30) rfl Tryz.ntmps30 rfl (by simp) ?_
  intro X K hU hnt hbl hK
  have hP : X.P = Tryz.prog := hU.P.trans hP0
  have hG := hG0.under hU
  have hT := Ty.T30 hP
  simp only [GA, ↓GB, GX, simprocAttr] at hbl ⊢
  have hGL := hG.l
  have hGM := hG.m
  have hk3 := True.intro
  repeat' (first
    | (refine SX.nilAt (j := 2) (k := 5) 139 5 rfl rfl ?_)
    | (refine SX.nilAt (j := 2) (k := 6) 9 1 rfl rfl ?_)
    | (refine uBlk (id := 1) (i := i) hGL (by omega) (fun ad hE D => ?_) <;> subst hE)
    | (refine uBlk (id := 3) (i := j) hGM (by omega) (fun ad hE D => ?_) <;> subst hE)
    | (refine SX.seqK ?_; intro N hN)
    | ((first | (refine SX.ops ?_) | (refine SX.planT (id := 8) [.q [(0, [3]), (1, [56]), (2, [3]), (3, [58]), (4, [1]), (5, [60]), (6, [4]), (7, [61, 62]), (8, [63]), (9, [64]), (10, [59, 65]), (11, [1]), (12, [67]), (13, [4]), (14, [68, 69]), (15, [70]), (16, [71]), (17, [72]), (18, [73]), (19, [66, 74])] (some (20, [75])), .s 21, .s 22, .s 23] ?_ ?_ ?_; (focus first | (rw [hP]; kernel_rfl) | (rw [hU1P, hP]; kernel_rfl)); (focus kernel_rfl)) | (refine SX.planT (id := 13) [.q [(0, [3]), (1, [101]), (2, [1]), (3, [103]), (4, [5]), (5, [104, 105]), (6, [106]), (7, [107])] (some (8, [108])), .s 9, .s 10, .s 11] ?_ ?_ ?_; (focus first | (rw [hP]; kernel_rfl) | (rw [hU1P, hP]; kernel_rfl)); (focus kernel_rfl))); simp only [GA, ↓GB, GX, simprocAttr, hnt, hT, hu, hm, hm5, htn, hq6, hq7, hL16, h16, h8, h64, h65])
    | ((first | refine SX.skip ?_ | refine SX.exit ?_ | refine SX.label ?_ | refine SX.ret ?_); try simp only [GA, ↓GB, GX, simprocAttr])
    | (refine hN _ ?_; clear hN N)
    | ((first | refine hK _ _ (FinI.ret3 ?_) | refine hK _ _ (FinI.nrm3 ?_)); simp only [GA, ↓GB, GX, simprocAttr, finP_s, hnt, hT, hu, hm, hm5, htn, hq6, hq7, hL16, h16, h8, h64, h65]; refine Done.out ?_)
    | (clear hN N; first | (refine hN _ ?_; clear hN N) | (clear hN N; refine hN _ ?_; clear hN N))
    | ((first | refine SX.cond rfl (fun hb => ?_) (fun hb => ?_) | (refine bif2.mk (fun hb => ?_) (fun hb => ?_) <;> (try simp only [hb, GA, ↓GB, GX, simprocAttr, hnt, hT, hu, hm, hm5, htn, hq6, hq7, hL16, h16, h8, h64, h65]))) <;> ((first | cases hb | (simp only [HBs] at hb) | skip) <;> (first | (exfalso; omega) | skip)))
    | ((first | (refine CallVC.pv hP (hn1 i) rfl ?_) | (refine CallQ.pv hP (hn1 i) rfl ?_) | (refine CallVC.pv hP (hn j) rfl ?_) | (refine CallQ.pv hP (hn j) rfl ?_)); simp only [GA, ↓GB, GX, simprocAttr, hnt, hT, hu, hm, hm5, htn, hq6, hq7, hL16, h16, h8, h64, h65])
    | (refine ⟨_, D.cell, ?_⟩ <;> (try simp only [GA, ↓GB, GX, simprocAttr, hnt, hT]))
    | (rw [add_block] <;> exact D.own)
    | (have hers := ers i (by omega) <;> refine SX.loop (ι := { i : Nat // (i ≤ M.length ∧ i ≤ 6) ∧ (dl = false → i = 0) }) (fun i => ⟨[(1, .one (.c (.loc 0 0))), (2, .one (.c (.loc 1 0))), (3, .one (.c (.loc 2 0))), (5, vv (.int .i64 i.1))], [.cells [.v (.int .i64 t), .v (.bool dl), .v (.bool true), .v (.int .u64 q), .v (.int .u64 v), .v (.slice a0 n0 c0), .v (.slice a1 n1 c1), .v (.bool true), .v (.slice qL L.length cL), .v (.slice qM M.length cM)] 70, .cells [.v (.int .i64 0), .v (.bool false), .v (.bool false), .v (.int .u64 0), .v (.int .u64 0), .v (.slice none 0 0), .v (.slice none 0 0)] 68, .cells [.v (.int .i64 tn), .v (.bool dl), .v (.bool dl), .v (.int .u64 q7), .v (.int .u64 v), .row 3, .row 4] 68, mrow (tellRs tn L), srow (((M.take i.1).filter nmK).map nmV)]⟩) (fun i => M.length - i.1) ⟨0, ⟨Nat.zero_le _, Nat.zero_le _⟩, fun _ => rfl⟩ ⟨[0, 1, 2, 3, 4], by (refine LeR.of ?_ ?_ ?_ ?_ ?_ ?_ ?_ <;> first | (rw [hbl]; decide) | decide | (simp only [GA, ↓GB, GX, simprocAttr, GDs]; done) | (simp only [GA, ↓GB, GX, simprocAttr, GDs]; first | (rw [hers]; exact ⟨rfl, rfl⟩) | (rw [hers]; rfl) | rfl; done))⟩ ?_ <;> rintro ⟨j, ⟨hi, hi2⟩, hj⟩ <;> simp only [] at hi hi2 hj ⊢)
    | (refine SX.loop (ι := { i : Nat // i ≤ L.length ∧ i ≤ 12 }) (fun i => ⟨[(1, .one (.c (.loc 0 0))), (2, .one (.c (.loc 1 0))), (3, .one (.c (.loc 2 0))), (4, vv (.int .i64 i.1))], [.cells [.v (.int .i64 t), .v (.bool dl), .v (.bool true), .v (.int .u64 q), .v (.int .u64 v), .v (.slice a0 n0 c0), .v (.slice a1 n1 c1), .v (.bool true), .v (.slice qL L.length cL), .v (.slice qM M.length cM)] 70, .cells [.v (.int .i64 0), .v (.bool false), .v (.bool false), .v (.int .u64 0), .v (.int .u64 0), .v (.slice none 0 0), .v (.slice none 0 0)] 68, .cells [.v (.int .i64 tn), .v (.bool dl), .v (.bool dl), .v (.int .u64 q7), .v (.int .u64 v), .row 3, .row 4] 68, mrow (((L.take i.1).filter nmK).map (rsN tn)), .row 9 1 0 []]⟩) (fun i => L.length - i.1) ⟨0, Nat.zero_le _, Nat.zero_le _⟩ ⟨[0, 1, 2, 3, 4], by (refine LeR.of ?_ ?_ ?_ ?_ ?_ ?_ ?_ <;> first | (rw [hbl]; decide) | decide | (simp only [GA, ↓GB, GX, simprocAttr, GDs]; done) | (simp only [GA, ↓GB, GX, simprocAttr, GDs]; rfl; done))⟩ ?_ <;> rintro ⟨i, hi, hi2⟩ <;> simp only [] at hi hi2 ⊢)
    | (refine SX.block ?_)
    | (refine and_mk ?_ ?_; (focus first | decide | omega | rfl | assumption | (simp only [LBs]; omega) | (simp; done)))
    | (refine And.intro ?_ ?_))
  all_goals (try refine Done.mk ?_)
  · have := hfl L i 12 (by omega)
    rw [List.length_map]
    omega
  · have hn2 : nmK (L.getD i 0) = true := by rw [← hL16 i]; simpa using hb
    have e := mrow_snoc (((L.take i).filter nmK).map (rsN tn)) (rsN tn (L.getD i 0))
    have e2 : ((L.take i).filter nmK).map (rsN tn) ++ [rsN tn (L.getD i 0)] = ((L.take (i + 1)).filter nmK).map (rsN tn) := by rw [tk L i (by omega) hn2, List.map_append]; rfl
    rw [e2] at e
    exact ⟨⟨i + 1, by omega, by omega⟩, [0, 1, 2, 6, 4], by (refine LeR.of ?_ ?_ ?_ ?_ ?_ ?_ ?_ <;> first | (rw [hbl]; decide) | decide | (simp only [GA, ↓GB, GX, simprocAttr, GDs]; done) | (simp only [GA, ↓GB, GX, simprocAttr, GDs]; first | (rw [wI64 (by omega) (by omega)]; rfl) | exact e | exact ⟨e, rfl⟩ | rfl; done)), by show L.length - (i + 1) < L.length - i; omega⟩
  · have hn2 : nmK (L.getD i 0) = false := by rw [← hL16 i]; exact hb
    have e := tk0 L i (by omega) hn2
    exact ⟨⟨i + 1, by omega, by omega⟩, [0, 1, 2, 3, 4], by (refine LeR.of ?_ ?_ ?_ ?_ ?_ ?_ ?_ <;> first | (rw [hbl]; decide) | decide | (simp only [GA, ↓GB, GX, simprocAttr, GDs]; done) | (simp only [GA, ↓GB, GX, simprocAttr, GDs]; first | (rw [wI64 (by omega) (by omega)]; rfl) | (rw [e]; done) | (rw [← e]; exact ⟨rfl, rfl⟩) | (rw [← e]; rfl) | rfl; done)), by show L.length - (i + 1) < L.length - i; omega⟩
  · have := hfl M j 6 (by omega)
    rw [List.length_map]
    omega
  · have hn2 : nmK (M.getD j 0) = true := by rw [← h16 j]; simpa using hb
    have e := srow_snoc (((M.take j).filter nmK).map nmV) (nmV (M.getD j 0))
    have e2 : ((M.take j).filter nmK).map nmV ++ [nmV (M.getD j 0)] = ((M.take (j + 1)).filter nmK).map nmV := by rw [tk M j (by omega) hn2, List.map_append]; rfl
    rw [e2] at e
    exact ⟨⟨j + 1, ⟨by omega, by omega⟩, fun h => by cases h⟩, [0, 1, 2, 3, 6], by (refine LeR.of ?_ ?_ ?_ ?_ ?_ ?_ ?_ <;> first | (rw [hbl]; decide) | decide | (simp only [GA, ↓GB, GX, simprocAttr, GDs]; done) | (simp only [GA, ↓GB, GX, simprocAttr, GDs]; first | (rw [wI64 (by omega) (by omega)]; rfl) | exact e | exact ⟨e, rfl⟩ | exact ⟨rfl, e⟩ | rfl; done)), by show M.length - (j + 1) < M.length - j; omega⟩
  · have hn2 : nmK (M.getD j 0) = false := by rw [← h16 j]; exact hb
    have e := tk0 M j (by omega) hn2
    exact ⟨⟨j + 1, ⟨by omega, by omega⟩, fun h => by cases h⟩, [0, 1, 2, 3, 4], by (refine LeR.of ?_ ?_ ?_ ?_ ?_ ?_ ?_ <;> first | (rw [hbl]; decide) | decide | (simp only [GA, ↓GB, GX, simprocAttr, GDs]; done) | (simp only [GA, ↓GB, GX, simprocAttr, GDs]; first | (rw [wI64 (by omega) (by omega)]; rfl) | (rw [e]; done) | (rw [← e]; exact ⟨rfl, rfl⟩) | (rw [← e]; rfl) | rfl; done)), by show M.length - (j + 1) < M.length - j; omega⟩
  · rw [erm j hj (by first | exact .inl rfl | exact .inr (by omega)) (by omega)] at hN0
    (refine hN0 _ _ ⟨[3, 4], _, _, ?_, ?_, ?_, ⟨rfl, rfl⟩⟩; (focus exact LeR.of rfl trivial (by simp only [GA, ↓GB, GX, simprocAttr, GDs]) (by decide) rfl rfl rfl); rotate_left; (focus rfl))
    rfl
  · rw [erm j hj (by first | exact .inl rfl | exact .inr (by omega)) (by omega)] at hN0
    (refine hN0 _ _ ⟨[3, 4], _, _, ?_, ?_, ?_, ⟨rfl, rfl⟩⟩; (focus exact LeR.of rfl trivial (by simp only [GA, ↓GB, GX, simprocAttr, GDs]) (by decide) rfl rfl rfl); rotate_left; (focus rfl))
    rfl
  · rw [erm j hj (by first | exact .inl rfl | exact .inr (by omega)) (by omega)] at hN0
    (refine hN0 _ _ ⟨[3, 4], _, _, ?_, ?_, ?_, ⟨rfl, rfl⟩⟩; (focus exact LeR.of rfl trivial (by simp only [GA, ↓GB, GX, simprocAttr, GDs]) (by decide) rfl rfl rfl); rotate_left; (focus rfl))
    rfl
  · have := hfl M j 6 (by omega)
    rw [List.length_map]
    omega
  · have hn2 : nmK (M.getD j 0) = true := by rw [← h16 j]; simpa using hb
    have e := srow_snoc (((M.take j).filter nmK).map nmV) (nmV (M.getD j 0))
    have e2 : ((M.take j).filter nmK).map nmV ++ [nmV (M.getD j 0)] = ((M.take (j + 1)).filter nmK).map nmV := by rw [tk M j (by omega) hn2, List.map_append]; rfl
    rw [e2] at e
    exact ⟨⟨j + 1, ⟨by omega, by omega⟩, fun h => by cases h⟩, [0, 1, 2, 3, 6], by (refine LeR.of ?_ ?_ ?_ ?_ ?_ ?_ ?_ <;> first | (rw [hbl]; decide) | decide | (simp only [GA, ↓GB, GX, simprocAttr, GDs]; done) | (simp only [GA, ↓GB, GX, simprocAttr, GDs]; first | (rw [wI64 (by omega) (by omega)]; rfl) | exact e | exact ⟨e, rfl⟩ | exact ⟨rfl, e⟩ | rfl; done)), by show M.length - (j + 1) < M.length - j; omega⟩
  · have hn2 : nmK (M.getD j 0) = false := by rw [← h16 j]; exact hb
    have e := tk0 M j (by omega) hn2
    exact ⟨⟨j + 1, ⟨by omega, by omega⟩, fun h => by cases h⟩, [0, 1, 2, 3, 4], by (refine LeR.of ?_ ?_ ?_ ?_ ?_ ?_ ?_ <;> first | (rw [hbl]; decide) | decide | (simp only [GA, ↓GB, GX, simprocAttr, GDs]; done) | (simp only [GA, ↓GB, GX, simprocAttr, GDs]; first | (rw [wI64 (by omega) (by omega)]; rfl) | (rw [e]; done) | (rw [← e]; exact ⟨rfl, rfl⟩) | (rw [← e]; rfl) | rfl; done)), by show M.length - (j + 1) < M.length - j; omega⟩
  · rw [erm j hj (by first | exact .inl rfl | exact .inr (by omega)) (by omega)] at hN0
    (refine hN0 _ _ ⟨[3, 4], _, _, ?_, ?_, ?_, ⟨rfl, rfl⟩⟩; (focus exact LeR.of rfl trivial (by simp only [GA, ↓GB, GX, simprocAttr, GDs]) (by decide) rfl rfl rfl); rotate_left; (focus rfl))
    rfl
  · rw [erm j hj (by first | exact .inl rfl | exact .inr (by omega)) (by omega)] at hN0
    (refine hN0 _ _ ⟨[3, 4], _, _, ?_, ?_, ?_, ⟨rfl, rfl⟩⟩; (focus exact LeR.of rfl trivial (by simp only [GA, ↓GB, GX, simprocAttr, GDs]) (by decide) rfl rfl rfl); rotate_left; (focus rfl))
    rfl
  · rw [erm j hj (by first | exact .inl rfl | exact .inr (by omega)) (by omega)] at hN0
    (refine hN0 _ _ ⟨[3, 4], _, _, ?_, ?_, ?_, ⟨rfl, rfl⟩⟩; (focus exact LeR.of rfl trivial (by simp only [GA, ↓GB, GX, simprocAttr, GDs]) (by decide) rfl rfl rfl); rotate_left; (focus rfl))
    rfl
theorem tell_f (t : Int) (dl : Bool) (q v : Nat) (hq : q < 18446744073709551616) (a0 : Option Addr) (n0 c0 : Nat) (a1 : Option Addr) (n1 c1 : Nat) (qL : Option Addr) (L : List UInt8) (cL : Nat) (qM : Option Addr) (M : List UInt8) (cM : Nat) :
    CtrF Tryz.prog (fun X => FarLM X qL L qM M) 30 [] [.one (.agg [.v (.int .i64 t), .v (.bool dl), .v (.bool false), .v (.int .u64 q), .v (.int .u64 v), .v (.slice a0 n0 c0), .v (.slice a1 n1 c1), .v (.bool true), .v (.slice qL L.length cL), .v (.slice qM M.length cM)])]
      (fun os u => os = [mrow (tellRs (tN t) L), srow (tellRm dl M)] ∧ u = .one (.agg [.v (.int .i64 (tN t)), .v (.bool dl), .v (.bool false), .v (.int .u64 (1 + q % 6 : Nat)), .v (.int .u64 v), .row 0, .row 1])) := by
  have hn1 : ∀ i, ∀ w, Calls Tryz.prog 21 #[.int .u8 (L.getD i 0).toNat] w _ := fun i w => name_any (L.getD i 0).toNat (L.getD i 0).toNat_lt w
  have hn : ∀ i, ∀ w, Calls Tryz.prog 21 #[.int .u8 (M.getD i 0).toNat] w _ := fun i w => name_any (M.getD i 0).toNat (M.getD i 0).toNat_lt w
  obtain ⟨u, hu⟩ : ∃ u : Int, IntKind.u64.wrap t = u := ⟨_, rfl⟩
  have hu2 : u = t % 18446744073709551616 := by rw [← hu, IntKind.wrap_u64]
  have m0 : 0 ≤ u := by rw [hu2]; omega
  obtain ⟨m, hm⟩ : ∃ m : Int, u.tmod 5 = m := ⟨_, rfl⟩
  have hm2 : m = u % 5 := by rw [← hm, Int.tmod_eq_emod_of_nonneg m0]
  have hm5 : IntKind.i64.wrap m = m := wI64 (by omega) (by omega)
  obtain ⟨tn, htn0⟩ : ∃ tn : Int, (tN t : Int) = tn := ⟨_, rfl⟩
  have htn : IntKind.i64.wrap (1 + m) = tn := by rw [wI64 (by omega) (by omega), ← htn0, tN, hm2, hu2]; omega
  obtain ⟨q7, hq70⟩ : ∃ q7 : Int, ((1 + q % 6 : Nat) : Int) = q7 := ⟨_, rfl⟩
  have hq6 : (q : Int).tmod 6 = ((q % 6 : Nat) : Int) := by rw [Int.tmod_eq_emod_of_nonneg (by omega)]; omega
  have hq7 : IntKind.u64.wrap (1 + ((q % 6 : Nat) : Int)) = q7 := by rw [wU64 (by omega) (by omega), ← hq70]; omega
  rw [htn0, hq70]
  have k16 : ∀ x : UInt8, (((x.toNat : Int).tmod 16 != 15) = nmK x) := fun x => by
    rw [Int.tmod_eq_emod_of_nonneg (by omega), nmK]
    generalize x.toNat = x
    by_cases h : x % 16 = 15
    · have : (x : Int) % 16 = 15 := by omega
      simp only [h, this]; rfl
    · have : ¬ (x : Int) % 16 = 15 := by omega
      simp only [h, decide_false, Bool.not_false, bne_iff_ne, ne_eq, this, not_false_iff]
  have hL16 : ∀ i, (((L.getD i 0).toNat : Int).tmod 16 != 15) = nmK (L.getD i 0) := fun i => k16 _
  have h16 : ∀ i, (((M.getD i 0).toNat : Int).tmod 16 != 15) = nmK (M.getD i 0) := fun i => k16 _
  have h8 : ∀ i, IntKind.u8.wrap (((L.getD i 0).toNat : Int).tdiv 8) = (((L.getD i 0).toNat / 8 : Nat) : Int) := fun i => by
    have := (L.getD i 0).toNat_lt
    rw [Int.tdiv_eq_ediv_of_nonneg (by omega), wB8 (by omega) (by omega)]; omega
  have h64 : ∀ i, IntKind.u64.wrap (((L.getD i 0).toNat / 8 : Nat) : Int) = (((L.getD i 0).toNat / 8 : Nat) : Int) := fun i => by
    have := (L.getD i 0).toNat_lt
    exact wU64 (by omega) (by omega)
  have h65 : ∀ i, IntKind.u64.wrap (1 + (((L.getD i 0).toNat / 8 : Nat) : Int)) = ((1 + (L.getD i 0).toNat / 8 : Nat) : Int) := fun i => by
    have := (L.getD i 0).toNat_lt
    rw [wU64 (by omega) (by omega)]; omega
  have tk : ∀ (M : List UInt8) i, i < M.length → nmK (M.getD i 0) = true → (M.take (i + 1)).filter nmK = (M.take i).filter nmK ++ [M.getD i 0] := fun M i hi h => by
    rw [List.take_add_one, List.getElem?_eq_getElem hi, List.filter_append]
    rw [List.getD_eq_getElem?_getD, List.getElem?_eq_getElem hi] at h ⊢
    simp only [Option.getD_some] at h
    simp only [Option.toList_some, List.filter_cons, h, if_true, List.filter_nil, Option.getD_some]
  have tk0 : ∀ (M : List UInt8) i, i < M.length → nmK (M.getD i 0) = false → (M.take i).filter nmK = (M.take (i + 1)).filter nmK := fun M i hi h => by
    rw [List.take_add_one, List.getElem?_eq_getElem hi, List.filter_append]
    rw [List.getD_eq_getElem?_getD, List.getElem?_eq_getElem hi] at h
    simp only [Option.getD_some] at h
    simp [h]
  have hfl : ∀ (M : List UInt8) i k, i ≤ k → ((M.take i).filter nmK).length ≤ k := fun M i k h => by
    have := filter_le nmK (M.take i)
    rw [List.length_take] at this
    omega
  have ers : ∀ i, (i = 12 ∨ L.length ≤ i) ∧ i ≤ 12 → tellRs tn L = ((L.take i).filter nmK).map (rsN tn) := fun i h => by
    rw [tellRs]
    rcases h with ⟨rfl | h, h2⟩
    · rfl
    · rw [List.take_of_length_le (i := 12) (by omega), List.take_of_length_le h]
  have erm : ∀ i, (dl = false → i = 0) → (dl = false ∨ i = 6 ∨ M.length ≤ i) → i ≤ 6 → tellRm dl M = ((M.take i).filter nmK).map nmV := fun i h0 h h2 => by
    cases dl with
    | false => rw [h0 rfl]; rfl
    | true =>
      rcases h with h | rfl | h
      · cases h
      · rfl
      · rw [tellRm, if_pos rfl, List.take_of_length_le (i := 6) (by omega), List.take_of_length_le h]
  refine CtrF.less ?_
  intro X0 hP0 hG0 N0 hN0
  refine CallVC.inline (f := 30) (by rw [hP0]; exact Tryz.func30) rfl Tryz.ntmps30 rfl (by simp) ?_
  intro X K hU hnt hbl hK
  have hP : X.P = Tryz.prog := hU.P.trans hP0
  have hG := hG0.under hU
  have hT := Ty.T30 hP
  simp only [GA, ↓GB, GX, simprocAttr] at hbl ⊢
  have hGL := hG.l
  have hGM := hG.m
  have hk3 := True.intro
  repeat' (first
    | (refine SX.nilAt (j := 2) (k := 5) 139 5 rfl rfl ?_)
    | (refine SX.nilAt (j := 2) (k := 6) 9 1 rfl rfl ?_)
    | (refine uBlk (id := 1) (i := i) hGL (by omega) (fun ad hE D => ?_) <;> subst hE)
    | (refine uBlk (id := 3) (i := j) hGM (by omega) (fun ad hE D => ?_) <;> subst hE)
    | (refine SX.seqK ?_; intro N hN)
    | ((first | (refine SX.ops ?_) | (refine SX.planT (id := 8) [.q [(0, [3]), (1, [56]), (2, [3]), (3, [58]), (4, [1]), (5, [60]), (6, [4]), (7, [61, 62]), (8, [63]), (9, [64]), (10, [59, 65]), (11, [1]), (12, [67]), (13, [4]), (14, [68, 69]), (15, [70]), (16, [71]), (17, [72]), (18, [73]), (19, [66, 74])] (some (20, [75])), .s 21, .s 22, .s 23] ?_ ?_ ?_; (focus first | (rw [hP]; kernel_rfl) | (rw [hU1P, hP]; kernel_rfl)); (focus kernel_rfl)) | (refine SX.planT (id := 13) [.q [(0, [3]), (1, [101]), (2, [1]), (3, [103]), (4, [5]), (5, [104, 105]), (6, [106]), (7, [107])] (some (8, [108])), .s 9, .s 10, .s 11] ?_ ?_ ?_; (focus first | (rw [hP]; kernel_rfl) | (rw [hU1P, hP]; kernel_rfl)); (focus kernel_rfl))); simp only [GA, ↓GB, GX, simprocAttr, hnt, hT, hu, hm, hm5, htn, hq6, hq7, hL16, h16, h8, h64, h65])
    | ((first | refine SX.skip ?_ | refine SX.exit ?_ | refine SX.label ?_ | refine SX.ret ?_); try simp only [GA, ↓GB, GX, simprocAttr])
    | (refine hN _ ?_; clear hN N)
    | ((first | refine hK _ _ (FinI.ret3 ?_) | refine hK _ _ (FinI.nrm3 ?_)); simp only [GA, ↓GB, GX, simprocAttr, finP_s, hnt, hT, hu, hm, hm5, htn, hq6, hq7, hL16, h16, h8, h64, h65]; refine Done.out ?_)
    | (clear hN N; first | (refine hN _ ?_; clear hN N) | (clear hN N; refine hN _ ?_; clear hN N))
    | ((first | refine SX.cond rfl (fun hb => ?_) (fun hb => ?_) | (refine bif2.mk (fun hb => ?_) (fun hb => ?_) <;> (try simp only [hb, GA, ↓GB, GX, simprocAttr, hnt, hT, hu, hm, hm5, htn, hq6, hq7, hL16, h16, h8, h64, h65]))) <;> ((first | cases hb | (simp only [HBs] at hb) | skip) <;> (first | (exfalso; omega) | skip)))
    | ((first | (refine CallVC.pv hP (hn1 i) rfl ?_) | (refine CallQ.pv hP (hn1 i) rfl ?_) | (refine CallVC.pv hP (hn j) rfl ?_) | (refine CallQ.pv hP (hn j) rfl ?_)); simp only [GA, ↓GB, GX, simprocAttr, hnt, hT, hu, hm, hm5, htn, hq6, hq7, hL16, h16, h8, h64, h65])
    | (refine ⟨_, D.cell, ?_⟩ <;> (try simp only [GA, ↓GB, GX, simprocAttr, hnt, hT]))
    | (rw [add_block] <;> exact D.own)
    | (have hers := ers i (by omega) <;> refine SX.loop (ι := { i : Nat // (i ≤ M.length ∧ i ≤ 6) ∧ (dl = false → i = 0) }) (fun i => ⟨[(1, .one (.c (.loc 0 0))), (2, .one (.c (.loc 1 0))), (3, .one (.c (.loc 2 0))), (5, vv (.int .i64 i.1))], [.cells [.v (.int .i64 t), .v (.bool dl), .v (.bool false), .v (.int .u64 q), .v (.int .u64 v), .v (.slice a0 n0 c0), .v (.slice a1 n1 c1), .v (.bool true), .v (.slice qL L.length cL), .v (.slice qM M.length cM)] 70, .cells [.v (.int .i64 0), .v (.bool false), .v (.bool false), .v (.int .u64 0), .v (.int .u64 0), .v (.slice none 0 0), .v (.slice none 0 0)] 68, .cells [.v (.int .i64 tn), .v (.bool dl), .v (.bool false), .v (.int .u64 q7), .v (.int .u64 v), .row 3, .row 4] 68, mrow (tellRs tn L), srow (((M.take i.1).filter nmK).map nmV)]⟩) (fun i => M.length - i.1) ⟨0, ⟨Nat.zero_le _, Nat.zero_le _⟩, fun _ => rfl⟩ ⟨[0, 1, 2, 3, 4], by (refine LeR.of ?_ ?_ ?_ ?_ ?_ ?_ ?_ <;> first | (rw [hbl]; decide) | decide | (simp only [GA, ↓GB, GX, simprocAttr, GDs]; done) | (simp only [GA, ↓GB, GX, simprocAttr, GDs]; first | (rw [hers]; exact ⟨rfl, rfl⟩) | (rw [hers]; rfl) | rfl; done))⟩ ?_ <;> rintro ⟨j, ⟨hi, hi2⟩, hj⟩ <;> simp only [] at hi hi2 hj ⊢)
    | (refine SX.loop (ι := { i : Nat // i ≤ L.length ∧ i ≤ 12 }) (fun i => ⟨[(1, .one (.c (.loc 0 0))), (2, .one (.c (.loc 1 0))), (3, .one (.c (.loc 2 0))), (4, vv (.int .i64 i.1))], [.cells [.v (.int .i64 t), .v (.bool dl), .v (.bool false), .v (.int .u64 q), .v (.int .u64 v), .v (.slice a0 n0 c0), .v (.slice a1 n1 c1), .v (.bool true), .v (.slice qL L.length cL), .v (.slice qM M.length cM)] 70, .cells [.v (.int .i64 0), .v (.bool false), .v (.bool false), .v (.int .u64 0), .v (.int .u64 0), .v (.slice none 0 0), .v (.slice none 0 0)] 68, .cells [.v (.int .i64 tn), .v (.bool dl), .v (.bool false), .v (.int .u64 q7), .v (.int .u64 v), .row 3, .row 4] 68, mrow (((L.take i.1).filter nmK).map (rsN tn)), .row 9 1 0 []]⟩) (fun i => L.length - i.1) ⟨0, Nat.zero_le _, Nat.zero_le _⟩ ⟨[0, 1, 2, 3, 4], by (refine LeR.of ?_ ?_ ?_ ?_ ?_ ?_ ?_ <;> first | (rw [hbl]; decide) | decide | (simp only [GA, ↓GB, GX, simprocAttr, GDs]; done) | (simp only [GA, ↓GB, GX, simprocAttr, GDs]; rfl; done))⟩ ?_ <;> rintro ⟨i, hi, hi2⟩ <;> simp only [] at hi hi2 ⊢)
    | (refine SX.block ?_)
    | (refine and_mk ?_ ?_; (focus first | decide | omega | rfl | assumption | (simp only [LBs]; omega) | (simp; done)))
    | (refine And.intro ?_ ?_))
  all_goals (try refine Done.mk ?_)
  · have := hfl L i 12 (by omega)
    rw [List.length_map]
    omega
  · have hn2 : nmK (L.getD i 0) = true := by rw [← hL16 i]; simpa using hb
    have e := mrow_snoc (((L.take i).filter nmK).map (rsN tn)) (rsN tn (L.getD i 0))
    have e2 : ((L.take i).filter nmK).map (rsN tn) ++ [rsN tn (L.getD i 0)] = ((L.take (i + 1)).filter nmK).map (rsN tn) := by rw [tk L i (by omega) hn2, List.map_append]; rfl
    rw [e2] at e
    exact ⟨⟨i + 1, by omega, by omega⟩, [0, 1, 2, 6, 4], by (refine LeR.of ?_ ?_ ?_ ?_ ?_ ?_ ?_ <;> first | (rw [hbl]; decide) | decide | (simp only [GA, ↓GB, GX, simprocAttr, GDs]; done) | (simp only [GA, ↓GB, GX, simprocAttr, GDs]; first | (rw [wI64 (by omega) (by omega)]; rfl) | exact e | exact ⟨e, rfl⟩ | rfl; done)), by show L.length - (i + 1) < L.length - i; omega⟩
  · have hn2 : nmK (L.getD i 0) = false := by rw [← hL16 i]; exact hb
    have e := tk0 L i (by omega) hn2
    exact ⟨⟨i + 1, by omega, by omega⟩, [0, 1, 2, 3, 4], by (refine LeR.of ?_ ?_ ?_ ?_ ?_ ?_ ?_ <;> first | (rw [hbl]; decide) | decide | (simp only [GA, ↓GB, GX, simprocAttr, GDs]; done) | (simp only [GA, ↓GB, GX, simprocAttr, GDs]; first | (rw [wI64 (by omega) (by omega)]; rfl) | (rw [e]; done) | (rw [← e]; exact ⟨rfl, rfl⟩) | (rw [← e]; rfl) | rfl; done)), by show L.length - (i + 1) < L.length - i; omega⟩
  · have := hfl M j 6 (by omega)
    rw [List.length_map]
    omega
  · have hn2 : nmK (M.getD j 0) = true := by rw [← h16 j]; simpa using hb
    have e := srow_snoc (((M.take j).filter nmK).map nmV) (nmV (M.getD j 0))
    have e2 : ((M.take j).filter nmK).map nmV ++ [nmV (M.getD j 0)] = ((M.take (j + 1)).filter nmK).map nmV := by rw [tk M j (by omega) hn2, List.map_append]; rfl
    rw [e2] at e
    exact ⟨⟨j + 1, ⟨by omega, by omega⟩, fun h => by cases h⟩, [0, 1, 2, 3, 6], by (refine LeR.of ?_ ?_ ?_ ?_ ?_ ?_ ?_ <;> first | (rw [hbl]; decide) | decide | (simp only [GA, ↓GB, GX, simprocAttr, GDs]; done) | (simp only [GA, ↓GB, GX, simprocAttr, GDs]; first | (rw [wI64 (by omega) (by omega)]; rfl) | exact e | exact ⟨e, rfl⟩ | exact ⟨rfl, e⟩ | rfl; done)), by show M.length - (j + 1) < M.length - j; omega⟩
  · have hn2 : nmK (M.getD j 0) = false := by rw [← h16 j]; exact hb
    have e := tk0 M j (by omega) hn2
    exact ⟨⟨j + 1, ⟨by omega, by omega⟩, fun h => by cases h⟩, [0, 1, 2, 3, 4], by (refine LeR.of ?_ ?_ ?_ ?_ ?_ ?_ ?_ <;> first | (rw [hbl]; decide) | decide | (simp only [GA, ↓GB, GX, simprocAttr, GDs]; done) | (simp only [GA, ↓GB, GX, simprocAttr, GDs]; first | (rw [wI64 (by omega) (by omega)]; rfl) | (rw [e]; done) | (rw [← e]; exact ⟨rfl, rfl⟩) | (rw [← e]; rfl) | rfl; done)), by show M.length - (j + 1) < M.length - j; omega⟩
  · rw [erm j hj (by first | exact .inl rfl | exact .inr (by omega)) (by omega)] at hN0
    (refine hN0 _ _ ⟨[3, 4], _, _, ?_, ?_, ?_, ⟨rfl, rfl⟩⟩; (focus exact LeR.of rfl trivial (by simp only [GA, ↓GB, GX, simprocAttr, GDs]) (by decide) rfl rfl rfl); rotate_left; (focus rfl))
    rfl
  · rw [erm j hj (by first | exact .inl rfl | exact .inr (by omega)) (by omega)] at hN0
    (refine hN0 _ _ ⟨[3, 4], _, _, ?_, ?_, ?_, ⟨rfl, rfl⟩⟩; (focus exact LeR.of rfl trivial (by simp only [GA, ↓GB, GX, simprocAttr, GDs]) (by decide) rfl rfl rfl); rotate_left; (focus rfl))
    rfl
  · rw [erm j hj (by first | exact .inl rfl | exact .inr (by omega)) (by omega)] at hN0
    (refine hN0 _ _ ⟨[3, 4], _, _, ?_, ?_, ?_, ⟨rfl, rfl⟩⟩; (focus exact LeR.of rfl trivial (by simp only [GA, ↓GB, GX, simprocAttr, GDs]) (by decide) rfl rfl rfl); rotate_left; (focus rfl))
    rfl
  · have := hfl M j 6 (by omega)
    rw [List.length_map]
    omega
  · have hn2 : nmK (M.getD j 0) = true := by rw [← h16 j]; simpa using hb
    have e := srow_snoc (((M.take j).filter nmK).map nmV) (nmV (M.getD j 0))
    have e2 : ((M.take j).filter nmK).map nmV ++ [nmV (M.getD j 0)] = ((M.take (j + 1)).filter nmK).map nmV := by rw [tk M j (by omega) hn2, List.map_append]; rfl
    rw [e2] at e
    exact ⟨⟨j + 1, ⟨by omega, by omega⟩, fun h => by cases h⟩, [0, 1, 2, 3, 6], by (refine LeR.of ?_ ?_ ?_ ?_ ?_ ?_ ?_ <;> first | (rw [hbl]; decide) | decide | (simp only [GA, ↓GB, GX, simprocAttr, GDs]; done) | (simp only [GA, ↓GB, GX, simprocAttr, GDs]; first | (rw [wI64 (by omega) (by omega)]; rfl) | exact e | exact ⟨e, rfl⟩ | exact ⟨rfl, e⟩ | rfl; done)), by show M.length - (j + 1) < M.length - j; omega⟩
  · have hn2 : nmK (M.getD j 0) = false := by rw [← h16 j]; exact hb
    have e := tk0 M j (by omega) hn2
    exact ⟨⟨j + 1, ⟨by omega, by omega⟩, fun h => by cases h⟩, [0, 1, 2, 3, 4], by (refine LeR.of ?_ ?_ ?_ ?_ ?_ ?_ ?_ <;> first | (rw [hbl]; decide) | decide | (simp only [GA, ↓GB, GX, simprocAttr, GDs]; done) | (simp only [GA, ↓GB, GX, simprocAttr, GDs]; first | (rw [wI64 (by omega) (by omega)]; rfl) | (rw [e]; done) | (rw [← e]; exact ⟨rfl, rfl⟩) | (rw [← e]; rfl) | rfl; done)), by show M.length - (j + 1) < M.length - j; omega⟩
  · rw [erm j hj (by first | exact .inl rfl | exact .inr (by omega)) (by omega)] at hN0
    (refine hN0 _ _ ⟨[3, 4], _, _, ?_, ?_, ?_, ⟨rfl, rfl⟩⟩; (focus exact LeR.of rfl trivial (by simp only [GA, ↓GB, GX, simprocAttr, GDs]) (by decide) rfl rfl rfl); rotate_left; (focus rfl))
    rfl
  · rw [erm j hj (by first | exact .inl rfl | exact .inr (by omega)) (by omega)] at hN0
    (refine hN0 _ _ ⟨[3, 4], _, _, ?_, ?_, ?_, ⟨rfl, rfl⟩⟩; (focus exact LeR.of rfl trivial (by simp only [GA, ↓GB, GX, simprocAttr, GDs]) (by decide) rfl rfl rfl); rotate_left; (focus rfl))
    rfl
  · rw [erm j hj (by first | exact .inl rfl | exact .inr (by omega)) (by omega)] at hN0
    (refine hN0 _ _ ⟨[3, 4], _, _, ?_, ?_, ?_, ⟨rfl, rfl⟩⟩; (focus exact LeR.of rfl trivial (by simp only [GA, ↓GB, GX, simprocAttr, GDs]) (by decide) rfl rfl rfl); rotate_left; (focus rfl))
    rfl
theorem tell_ctr (t : Int) (dl mo : Bool) (q v : Nat) (hq : q < 18446744073709551616) (a0 : Option Addr) (n0 c0 : Nat) (a1 : Option Addr) (n1 c1 : Nat) (qL : Option Addr) (L : List UInt8) (cL : Nat) (qM : Option Addr) (M : List UInt8) (cM : Nat) :
    CtrF Tryz.prog (fun X => FarLM X qL L qM M) 30 [] [.one (.agg [.v (.int .i64 t), .v (.bool dl), .v (.bool mo), .v (.int .u64 q), .v (.int .u64 v), .v (.slice a0 n0 c0), .v (.slice a1 n1 c1), .v (.bool true), .v (.slice qL L.length cL), .v (.slice qM M.length cM)])]
      (fun os u => os = [mrow (tellRs (tN t) L), srow (tellRm dl M)] ∧ u = .one (.agg [.v (.int .i64 (tN t)), .v (.bool dl), .v (.bool (mo && dl)), .v (.int .u64 (1 + q % 6 : Nat)), .v (.int .u64 v), .row 0, .row 1])) := by
  cases mo with
  | true => exact tell_t t dl q v hq a0 n0 c0 a1 n1 c1 qL L cL qM M cM
  | false => exact tell_f t dl q v hq a0 n0 c0 a1 n1 c1 qL L cL qM M cM
end Go.Proofs.YtbdacbcpniegiaaGreatDoor.Q
namespace Go.Proofs.YtbdacbcpniegiaaGreatDoor.Q
open Go Go.RowKit Go.Proofs Go.Sx Go.ChangeShapes
theorem nKind : Tryz.prog.globalNamed "noria/message.errKind" = some 1 := by kernel_rfl
theorem nForm : Tryz.prog.globalNamed "noria/message.errForm" = some 0 := by kernel_rfl
theorem tKind : (Tryz.prog.globals[1]?).map (·.type) = some 98 := by kernel_rfl
theorem tForm : (Tryz.prog.globals[0]?).map (·.type) = some 98 := by kernel_rfl
theorem ge_of_laid {W : World} {n0 n3 : String} {d0 d3 : DataW Unit} (h : laidMet Tryz.prog [(n0, d0), ("noria/wire.errShort", Rows.laid_noria_wire_errShort), ("noria/wire.errWrong", Rows.laid_noria_wire_errWrong), ("noria/message.errKind", Rows.laid_noria_message_errKind), ("noria/message.errForm", Rows.laid_noria_message_errForm), (n3, d3)] W) :
    ∃ e : EA, e.Ok ∧ ∀ p ∈ GE e, W.cell? p.1 = some p.2 ∧ loneStr W p := by
  obtain ⟨ps, ⟨gx, tx, csx, fx, px, qx, hgx, htx, hvx, hdx, ⟨gz, tz, csz, fz, pz, qz, hgz, htz, hvz, hdz, ⟨gw, tw, csw, fw, pw, qw, hgw, htw, hvw, hdw, ⟨gk, tk, csk, fk, pk, qk, hgk, htk, hvk, hdk, ⟨gf, tf, csf, ff, pf, qf, hgf, htf, hvf, hdf, hq9, ef⟩, ek⟩, ew⟩, ez⟩, ex⟩, hnd, hrows⟩ := h
  obtain rfl := Option.some.inj (nShort.symm.trans hgz)
  obtain rfl := Option.some.inj (tShort.symm.trans htz)
  obtain rfl := Option.some.inj (nWrong.symm.trans hgw)
  obtain rfl := Option.some.inj (tWrong.symm.trans htw)
  obtain rfl := Option.some.inj (nKind.symm.trans hgk)
  obtain rfl := Option.some.inj (tKind.symm.trans htk)
  obtain rfl := Option.some.inj (nForm.symm.trans hgf)
  obtain rfl := Option.some.inj (tForm.symm.trans htf)
  subst ef
  subst ek
  subst ew
  subst ez
  subst ex
  obtain ⟨lz⟩ := csz
  obtain ⟨lw⟩ := csw
  obtain ⟨lk⟩ := csk
  obtain ⟨lf⟩ := csf
  have okz : ∀ u v, lz = [.iface u v] → Value.okWide Tryz.prog W .any 0 u v := fun u v e => by
    subst e
    exact (hrows 2 0 (by simp [MemPlace.row])).2 u v (by simpa using World.var?_cell hgz hvz 0)
  have okw : ∀ u v, lw = [.iface u v] → Value.okWide Tryz.prog W .any 0 u v := fun u v e => by
    subst e
    exact (hrows 3 0 (by simp [MemPlace.row])).2 u v (by simpa using World.var?_cell hgw hvw 0)
  have okk : ∀ u v, lk = [.iface u v] → Value.okWide Tryz.prog W .any 0 u v := fun u v e => by
    subst e
    exact (hrows 1 0 (by simp [MemPlace.row])).2 u v (by simpa using World.var?_cell hgk hvk 0)
  have okf : ∀ u v, lf = [.iface u v] → Value.okWide Tryz.prog W .any 0 u v := fun u v e => by
    subst e
    exact (hrows 0 0 (by simp [MemPlace.row])).2 u v (by simpa using World.var?_cell hgf hvf 0)
  obtain ⟨az, sz, rfl, hcz, hsz, hzz, rfl⟩ := errorString_of_trod Tryz.underlying98 row253 Tryz.underlying211 Tryz.underlying235 rfl rfl Tryz.underlying9 c277 c9 hdz okz
  obtain ⟨aw, sw, rfl, hcw, hsw, hzw, rfl⟩ := errorString_of_trod Tryz.underlying98 row253 Tryz.underlying211 Tryz.underlying235 rfl rfl Tryz.underlying9 c277 c9 hdw okw
  obtain ⟨ak, sk, rfl, hck, hsk, hzk, rfl⟩ := errorString_of_trod Tryz.underlying98 row253 Tryz.underlying211 Tryz.underlying235 rfl rfl Tryz.underlying9 c277 c9 hdk okk
  obtain ⟨af, sf, rfl, hcf, hsf, hzf, rfl⟩ := errorString_of_trod Tryz.underlying98 row253 Tryz.underlying211 Tryz.underlying235 rfl rfl Tryz.underlying9 c277 c9 hdf okf
  obtain ⟨bz, uz, hbz⟩ := (hrows az.block az.off (by simp [MemPlace.row])).1
  have hxz : W.cell? ⟨2, 0, none⟩ = some (errV az) := by simpa using World.var?_cell hgz hvz 0
  obtain ⟨bw, uw, hbw⟩ := (hrows aw.block aw.off (by simp [MemPlace.row])).1
  have hxw : W.cell? ⟨3, 0, none⟩ = some (errV aw) := by simpa using World.var?_cell hgw hvw 0
  obtain ⟨bk, uk, hbk⟩ := (hrows ak.block ak.off (by simp [MemPlace.row])).1
  have hxk : W.cell? ⟨1, 0, none⟩ = some (errV ak) := by simpa using World.var?_cell hgk hvk 0
  obtain ⟨bf, uf, hbf⟩ := (hrows af.block af.off (by simp [MemPlace.row])).1
  have hxf : W.cell? ⟨0, 0, none⟩ = some (errV af) := by simpa using World.var?_cell hgf hvf 0
  have key : ∀ (s : ByteArray) (l : List UInt8), s.data.toList = l → s = B l := fun s l h => by
    obtain ⟨⟨x⟩⟩ := s
    have h : x = l := h
    rw [h]; rfl
  have esz : sz = B tS := key _ _ hsz
  rw [esz] at hcz
  have esw : sw = B tW := key _ _ hsw
  rw [esw] at hcw
  have esk : sk = B tK := key _ _ hsk
  rw [esk] at hck
  have esf : sf = B tF := key _ _ hsf
  rw [esf] at hcf
  refine ⟨⟨ak, af, az, aw⟩, ?_, ?_⟩
  · have h2 := hnd
    simp [MemPlace.row, List.nodup_append] at h2
    constructor <;> simp only [ne_eq] <;> rintro rfl <;> simp at h2
  · intro p hp
    simp only [GE, List.mem_cons, List.not_mem_nil, or_false] at hp
    rcases hp with rfl | rfl | rfl | rfl | rfl | rfl | rfl | rfl
    · exact ⟨hxk, trivial⟩
    · exact ⟨hxf, trivial⟩
    · exact ⟨hxz, trivial⟩
    · exact ⟨hxw, trivial⟩
    · exact ⟨hck, _, _, hbk⟩
    · exact ⟨hcf, _, _, hbf⟩
    · exact ⟨hcz, _, _, hbz⟩
    · exact ⟨hcw, _, _, hbw⟩
theorem scell_get (xs : List (List UInt8)) (i : Nat) (h : i < xs.length) : (xs.map fun s => Value.string (B s))[i * 1]? = some (.string (B (xs.getD i []))) := by
  rw [Nat.mul_one, List.getElem?_map, List.getD_eq_getElem?_getD, List.getElem?_eq_getElem h]; rfl
theorem texts_ctr (xs ys : List (List UInt8)) (h1 : xs.length ≤ 1099511627776) (h2 : ys.length ≤ 1099511627776) : Ctr Tryz.prog [] 40 [srow xs, srow ys] [.one (.c (.row 0)), .one (.c (.row 1))] (fun os v => os = [srow xs, srow ys] ∧ v = vv (.bool (decide (xs = ys)))) := by
  have key : ∀ i, i < xs.length → xs.length = ys.length → xs.take i = ys.take i → xs.getD i [] = ys.getD i [] → xs.take (i + 1) = ys.take (i + 1) := fun i hi hl ht he => by
    rw [List.take_add_one, List.take_add_one, ht, List.getElem?_eq_getElem hi, List.getElem?_eq_getElem (by omega)]
    rw [List.getD_eq_getElem?_getD, List.getD_eq_getElem?_getD, List.getElem?_eq_getElem hi, List.getElem?_eq_getElem (by omega)] at he
    simp only [Option.getD_some] at he
    rw [he]
  refine Ctr.less ?_
  intro X0 hP0 hG0 N0 hN0
  refine CallVC.inline (f := 40) (by rw [hP0]; exact Tryz.func40) rfl Tryz.ntmps40 rfl (by simp) ?_
  intro X K hU hnt hbl hK
  have hP : X.P = Tryz.prog := hU.P.trans hP0
  have hG := hG0.under hU
  have hT := Ty.T40 hP
  simp only [GA, ↓GB, GX, simprocAttr] at hbl ⊢
  repeat' (first
    | (refine SX.seqK ?_; intro N hN)
    | ((first | (refine SX.ops ?_) | (refine SX.planT (id := 6) [.q [(0, [0]), (1, [5]), (2, [17, 18]), (3, [19]), (4, [1]), (5, [5]), (6, [21, 22]), (7, [23]), (8, [20, 24])] none] ?_ ?_ ?_; (focus first | (rw [hP]; kernel_rfl) | (rw [hU1P, hP]; kernel_rfl)); (focus kernel_rfl))); simp only [GA, ↓GB, GX, simprocAttr, hnt, hT])
    | ((first | refine SX.skip ?_ | refine SX.exit ?_ | refine SX.label ?_ | refine SX.ret ?_); try simp only [GA, ↓GB, GX, simprocAttr])
    | (refine hN _ ?_; clear hN N)
    | ((first | refine hK _ _ (FinI.ret3 ?_) | refine hK _ _ (FinI.nrm3 ?_)); simp only [GA, ↓GB, GX, simprocAttr, finP_s, hnt, hT]; refine Done.out ?_)
    | (clear hN N; first | (refine hN _ ?_; clear hN N) | (clear hN N; refine hN _ ?_; clear hN N))
    | ((first | refine SX.cond rfl (fun hb => ?_) (fun hb => ?_) | (refine bif2.mk (fun hb => ?_) (fun hb => ?_) <;> (try simp only [hb, GA, ↓GB, GX, simprocAttr, hnt, hT]))) <;> ((first | cases hb | (simp only [HBs] at hb) | skip) <;> (first | (exfalso; omega) | skip)))
    | (refine SX.loop (ι := { i : Nat // i ≤ xs.length ∧ xs.length = ys.length ∧ xs.take i = ys.take i }) (fun i => ⟨[(0, .one (.c (.row 0))), (1, .one (.c (.row 1))), (4, vv (.bool false)), (5, vv (.int .i64 i.1))], [srow xs, srow ys]⟩) (fun i => xs.length - i.1) ⟨0, Nat.zero_le _, by have := bne_eq_false_iff_eq.1 hb <;> omega, rfl⟩ ⟨[0, 1], by (refine LeR.of ?_ ?_ ?_ ?_ ?_ ?_ ?_ <;> first | (rw [hbl]; decide) | decide | (simp only [GA, ↓GB, GX, simprocAttr, GDs]; done) | (simp only [GA, ↓GB, GX, simprocAttr, GDs]; rfl; done))⟩ ?_ <;> rintro ⟨i, hi, hl, ht⟩ <;> simp only [] at hi hl ht ⊢)
    | (refine ⟨_, scell_get _ _ (by omega), ?_⟩ <;> (try simp only [GA, ↓GB, GX, simprocAttr, hnt, hT]))
    | (refine SX.block ?_)
    | (refine and_mk ?_ ?_; (focus first | decide | omega | rfl | assumption | (simp only [LBs]; omega) | (simp; done)))
    | (refine And.intro ?_ ?_))
  all_goals (try refine Done.mk ?_)
  · rw [decide_eq_false (fun h => hb (by rw [h]))] at hN0
    (refine hN0 _ _ ⟨[0, 1], _, _, ?_, ?_, ?_, ⟨rfl, rfl⟩⟩; (focus exact LeR.of rfl trivial (by simp only [GA, ↓GB, GX, simprocAttr, GDs]) (by decide) rfl rfl rfl); rotate_left; (focus rfl))
    rfl
  · have he : xs.getD i [] ≠ ys.getD i [] := by
      intro he
      rw [he] at hb
      simp at hb
    rw [decide_eq_false (fun h => he (by rw [h]))] at hN0
    (refine hN0 _ _ ⟨[0, 1], _, _, ?_, ?_, ?_, ⟨rfl, rfl⟩⟩; (focus exact LeR.of rfl trivial (by simp only [GA, ↓GB, GX, simprocAttr, GDs]) (by decide) rfl rfl rfl); rotate_left; (focus rfl))
    rfl
  · have he : xs.getD i [] = ys.getD i [] := by simpa using hb
    exact ⟨⟨i + 1, by omega, hl, key i (by omega) hl ht he⟩, [0, 1], by (refine LeR.of ?_ ?_ ?_ ?_ ?_ ?_ ?_ <;> first | (rw [hbl]; decide) | decide | (simp only [GA, ↓GB, GX, simprocAttr, GDs]; done) | (simp only [GA, ↓GB, GX, simprocAttr, GDs]; first | (rw [wI64 (by omega) (by omega)]; rfl) | rfl; done)), by show xs.length - (i + 1) < xs.length - i; omega⟩
  · have he : xs = ys := by rw [List.take_of_length_le (by omega), List.take_of_length_le (by omega)] at ht; exact ht
    rw [decide_eq_true he] at hN0
    (refine hN0 _ _ ⟨[0, 1], _, _, ?_, ?_, ?_, ⟨rfl, rfl⟩⟩; (focus exact LeR.of rfl trivial (by simp only [GA, ↓GB, GX, simprocAttr, GDs]) (by decide) rfl rfl rfl); rotate_left; (focus rfl))
    rfl
theorem getReq_put {e : EA} (he : e.Ok) {t : Nat} {dl : Bool} {q : Nat} {sb un : List (List UInt8)} {hv : List HvS} {d : List UInt8} (hq : q < 18446744073709551616) (b3 : ∀ x ∈ hv, x.2 < 18446744073709551616) (h : reqB (t : Int) dl q sb un hv d = true)
    (ext : List NW.Fld) (hx : ∀ f ∈ ext, f.Ok ∧ 8 ≤ f.num) (hl : (NW.encs ext).length ≤ 1000) : Ctr Tryz.prog (GE e) 14 [] [vv (.string (B (reqBytes t dl q sb un hv d ++ NW.encs ext)))]
      (fun os v => os = [srow sb, srow un, hrow hv] ∧ v = .tup [.agg [.v (.int .i64 t), .v (.bool dl), .v (.int .u64 q), .row 0, .row 1, .row 2, .v (.string (B d))], .c (.v (.bool true))]) := by
  obtain ⟨g1, g2, g3, g4, g5, g6, g7, g8, g9⟩ := reqB_spec h
  have c1 := textsB_le 4 (by decide) sb g4
  have c2 := textsB_le 5 (by decide) un g6
  have c3 := havesB_le hv (fun x hx => ⟨g8 x hx, b3 x hx⟩)
  have e1 := numZ_len 1 t (by decide) (by omega)
  have e2 := flagZ_len 2 dl (by decide)
  have e3 := numZ_len 3 q (by decide) hq
  have e4 := textB_le 7 d (by decide) (by omega)
  have hlen : (reqBytes t dl q sb un hv d ++ NW.encs ext).length ≤ 1048576 := by
    simp only [reqBytes, reqHead, List.length_append, List.length_cons]
    split <;> (try simp only [List.length_nil]) <;> omega
  have hg := getReq_ctr he _ hlen
  rw [reqR_more hq b3 h ext hx] at hg
  have hm : ((min t 6 : Nat) : Int) = (t : Int) := by omega
  have hdl : (((if dl then 1 else 0 : Nat) : Int) == 1) = dl := by cases dl <;> rfl
  simp only [reqRO, reqRV, hm, hdl] at hg
  exact hg
theorem getResp_put {e : EA} (he : e.Ok) {t : Nat} {dl mo : Bool} {q v : Nat} {rs : List Rs} {rm : List (List UInt8)} (hq : q < 18446744073709551616) (hv : v < 18446744073709551616) (h : respB (t : Int) dl mo q rs rm = true)
    (ext : List NW.Fld) (hx : ∀ f ∈ ext, f.Ok ∧ 8 ≤ f.num) (hl : (NW.encs ext).length ≤ 1000) : Ctr Tryz.prog (GE e) 34 [] [vv (.string (B (respBytes t dl mo q v rs rm ++ NW.encs ext)))]
      (fun os u => os = [mrow rs, srow rm] ∧ u = .tup [.agg [.v (.int .i64 t), .v (.bool dl), .v (.bool mo), .v (.int .u64 q), .v (.int .u64 v), .row 0, .row 1], .c (.v (.bool true))]) := by
  obtain ⟨g1, g2, g3, g4, g5, g6, g7⟩ := respB_spec h
  have c1 := rsB_le rs (fun r hr => (g5 r hr).1)
  have c2 := textsB_le 6 (by decide) rm g7
  have e1 := numZ_len 1 t (by decide) (by omega)
  have e2 := flagZ_len 2 dl (by decide)
  have e3 := numZ_len 3 q (by decide) hq
  have e4 := numZ_len 4 v (by decide) hv
  have e7 := flagZ_len 7 mo (by decide)
  have hlen : (respBytes t dl mo q v rs rm ++ NW.encs ext).length ≤ 1099511627776 := by
    simp only [respBytes, respHead, List.length_append, List.length_cons]
    omega
  have hg := getResp_ctr he _ hlen
  rw [respR_more hq hv h ext hx] at hg
  have hm : ((min t 6 : Nat) : Int) = (t : Int) := by omega
  have hdl : (((if dl then 1 else 0 : Nat) : Int) == 1) = dl := by cases dl <;> rfl
  have hmo : (((if mo then 1 else 0 : Nat) : Int) == 1) = mo := by cases mo <;> rfl
  simp only [respRO, respRV, hm, hdl, hmo] at hg
  exact hg
structure BackF (X : Ctx) (e : EA) (qL : Option Addr) (L : List UInt8) (qM : Option Addr) (M : List UInt8) (qL' : Option Addr) (L' : List UInt8) (qM' : Option Addr) (M' : List UInt8) : Prop where
  k : Known X (GE e)
  a : FarLM X qL L qM M
  b : FarLM X qL' L' qM' M'
theorem BackF.under {X X' : Ctx} {e : EA} {qL qM qL' qM' : Option Addr} {L M L' M' : List UInt8} (h : BackF X e qL L qM M qL' L' qM' M') (hU : Under X X') : BackF X' e qL L qM M qL' L' qM' M' := ⟨h.k.under hU, h.a.under hU, h.b.under hU⟩
theorem askHv_q (dl : Bool) (M : List UInt8) : ∀ x ∈ askHv dl M, x.2 < 18446744073709551616 := by
  cases dl
  · intro s hs; cases hs
  · simp only [askHv, if_true, List.mem_map]; rintro s ⟨x, _, rfl⟩
    have := x.toNat_lt
    show x.toNat / 4 < _; omega
theorem ask_put {t : Int} {dl : Bool} {q : Nat} (hq : q < 18446744073709551616) (d l m : List UInt8) :
    Ctr Tryz.prog [] 10 [srow (askSb l), srow (askUn dl m), hrow (askHv dl m)] [.one (.agg [.v (.int .i64 (tN t)), .v (.bool dl), .v (.int .u64 (q % 6 : Nat)), .row 0, .row 1, .row 2, .v (.string (B (askDet q d)))])]
      (fun os v => os = [srow (askSb l), srow (askUn dl m), hrow (askHv dl m)] ∧ v = .tup [.c (.v (.string (B (reqBytes (tN t) dl (q % 6) (askSb l) (askUn dl m) (askHv dl m) (askDet q d))))), .c (.v (.bool true))]) := by
  have hr := ask_right t dl q d l m
  obtain ⟨g1, g2, g3, g4, g5, g6, g7, g8, g9⟩ := reqB_spec hr
  have h := putReq_ctr (tN t) dl (q % 6) (askSb l) (askUn dl m) (askHv dl m) (askDet q d) (by omega) (by omega) (by omega) (by omega) (fun s hs => by have := g4 s hs; omega) (fun s hs => by have := g6 s hs; omega) (fun x hx => ⟨by have := g8 x hx; omega, askHv_q dl m x hx⟩)
  rw [hr] at h
  exact h
theorem tell_put {t : Int} {dl mo : Bool} {q v : Nat} (hq : q < 18446744073709551616) (hv : v < 18446744073709551616) (l m : List UInt8) :
    Ctr Tryz.prog [] 31 [mrow (tellRs (tN t) l), srow (tellRm dl m)] [.one (.agg [.v (.int .i64 (tN t)), .v (.bool dl), .v (.bool (mo && dl)), .v (.int .u64 (1 + q % 6 : Nat)), .v (.int .u64 v), .row 0, .row 1])]
      (fun os u => os = [mrow (tellRs (tN t) l), srow (tellRm dl m)] ∧ u = .tup [.c (.v (.string (B (respBytes (tN t) dl (mo && dl) (1 + q % 6) v (tellRs (tN t) l) (tellRm dl m))))), .c (.v (.bool true))]) := by
  have hr := tell_right t dl mo q l m
  obtain ⟨g1, g2, g3, g4, g5, g6, g7⟩ := respB_spec hr
  have h := putResp_ctr (tN t) dl (mo && dl) (1 + q % 6) v (tellRs (tN t) l) (tellRm dl m) (by omega) hv (by omega) (fun r hr => by have := (right_type (g5 r hr).1).2.2.1; omega) (by omega) (fun s hs => by have := g7 s hs; omega)
  rw [hr] at h
  exact h
theorem encs_one (num n : Nat) : NW.encs [⟨num, 0, n, []⟩] = numB num n := by simp [NW.encs, NW.Fld.enc, numB]
theorem getReq_none {e : EA} (he : e.Ok) (s : List UInt8) (hs : s.length ≤ 1048576) (h : ¬ kindL s = 1) : Ctr Tryz.prog (GE e) 14 [] [vv (.string (B s))] (fun os v => os = [] ∧ v = reqRV none) := by
  have hg := getReq_ctr he s hs
  rw [show reqR s = none by rw [reqR, if_neg h]] at hg
  exact hg
theorem getResp_none {e : EA} (he : e.Ok) (s : List UInt8) (hs : s.length ≤ 1099511627776) (h : ¬ kindL s = 2) : Ctr Tryz.prog (GE e) 34 [] [vv (.string (B s))] (fun os v => os = [] ∧ v = respRV none) := by
  have hg := getResp_ctr he s hs
  rw [show respR s = none by rw [respR, if_neg h]] at hg
  exact hg
theorem reqBytes_len {t : Nat} {dl : Bool} {q : Nat} {sb un : List (List UInt8)} {hv : List HvS} {d : List UInt8} (hq : q < 18446744073709551616) (b3 : ∀ x ∈ hv, x.2 < 18446744073709551616) (h : reqB (t : Int) dl q sb un hv d = true) : (reqBytes t dl q sb un hv d).length ≤ 1000000 := by
  obtain ⟨g1, g2, g3, g4, g5, g6, g7, g8, g9⟩ := reqB_spec h
  have c1 := textsB_le 4 (by decide) sb g4
  have c2 := textsB_le 5 (by decide) un g6
  have c3 := havesB_le hv (fun x hx => ⟨g8 x hx, b3 x hx⟩)
  have e1 := numZ_len 1 t (by decide) (by omega)
  have e2 := flagZ_len 2 dl (by decide)
  have e3 := numZ_len 3 q (by decide) hq
  have e4 := textB_le 7 d (by decide) (by omega)
  simp only [reqBytes, reqHead, List.length_append, List.length_cons]
  split <;> (try simp only [List.length_nil]) <;> omega
theorem respBytes_len {t : Nat} {dl mo : Bool} {q v : Nat} {rs : List Rs} {rm : List (List UInt8)} (hq : q < 18446744073709551616) (hv : v < 18446744073709551616) (h : respB (t : Int) dl mo q rs rm = true) : (respBytes t dl mo q v rs rm).length ≤ 1000000 := by
  obtain ⟨g1, g2, g3, g4, g5, g6, g7⟩ := respB_spec h
  have c1 := rsB_le rs (fun r hr => (g5 r hr).1)
  have c2 := textsB_le 6 (by decide) rm g7
  have e1 := numZ_len 1 t (by decide) (by omega)
  have e2 := flagZ_len 2 dl (by decide)
  have e3 := numZ_len 3 q (by decide) hq
  have e4 := numZ_len 4 v (by decide) hv
  have e7 := flagZ_len 7 mo (by decide)
  simp only [respBytes, respHead, List.length_append, List.length_cons]
  omega
theorem back_ctr {e : EA} (he : e.Ok) (t : Int) (dl : Bool) (q : Nat) (hq : q < 18446744073709551616) (d : List UInt8) (hd : d.length ≤ 9223372036854775807) (a0 : Option Addr) (n0 c0 : Nat) (a1 : Option Addr) (n1 c1 : Nat) (a2 : Option Addr) (n2 c2 : Nat) (o1 : Bool) (qL : Option Addr) (L : List UInt8) (cL : Nat) (qM : Option Addr) (M : List UInt8) (cM : Nat)
    (t' : Int) (dl' mo' : Bool) (q' v' : Nat) (hq' : q' < 18446744073709551616) (hv' : v' < 18446744073709551616) (a0' : Option Addr) (n0' c0' : Nat) (a1' : Option Addr) (n1' c1' : Nat) (o2 : Bool) (qL' : Option Addr) (L' : List UInt8) (cL' : Nat) (qM' : Option Addr) (M' : List UInt8) (cM' : Nat)
    (n : Nat) (hn : n < 18446744073709551616) (nu : Nat) (hnu : nu < 65536) :
    CtrF Tryz.prog (fun X => BackF X e qL L qM M qL' L' qM' M') 7 [] [.one (.agg [.v (.int .i64 t), .v (.bool dl), .v (.int .u64 q), .v (.slice a0 n0 c0), .v (.slice a1 n1 c1), .v (.slice a2 n2 c2), .v (.string (B d)), .v (.bool o1), .v (.slice qL L.length cL), .v (.slice qM M.length cM)]), .one (.agg [.v (.int .i64 t'), .v (.bool dl'), .v (.bool mo'), .v (.int .u64 q'), .v (.int .u64 v'), .v (.slice a0' n0' c0'), .v (.slice a1' n1' c1'), .v (.bool o2), .v (.slice qL' L'.length cL'), .v (.slice qM' M'.length cM')]), vv (.int .u64 n), vv (.int .u16 nu)] (fun os u => os = [] ∧ u = vv (.bool true)) := by
  have hask := ask_ctr t dl q hq d hd a0 n0 c0 a1 n1 c1 a2 n2 c2 qL L cL qM M cM
  have htell := tell_ctr t' dl' mo' q' v' hq' a0' n0' c0' a1' n1' c1' qL' L' cL' qM' M' cM'
  have hex := ex05_ctr he
  have hw1 : IntKind.i64.wrap (nu : Int) = nu := wI64 (by omega) (by omega)
  have hw2 : IntKind.i64.wrap (8 + (nu : Int)) = ((8 + nu : Nat) : Int) := by rw [wI64 (by omega) (by omega)]; omega
  have hnum := number_any (8 + nu) n (by omega) (by omega) hn
  have hpt := ask_put (t := t) (dl := dl) hq d L M
  have hpr := tell_put (t := t') (dl := dl') (mo := mo') hq' hv' L' M'
  have hrt := ask_right t dl q d L M
  have hrr := tell_right t' dl' mo' q' L' M'
  have hxt : ∀ f ∈ [(⟨8 + nu, 0, n, []⟩ : NW.Fld)], f.Ok ∧ 8 ≤ f.num := by
    intro f hf
    simp at hf; subst hf
    exact ⟨⟨by show 1 ≤ 8 + nu; omega, by show 8 + nu < _; omega, .inl ⟨rfl, rfl, hn⟩⟩, by show 8 ≤ 8 + nu; omega⟩
  have hxl : (NW.encs [(⟨8 + nu, 0, n, []⟩ : NW.Fld)]).length ≤ 1000 := by
    rw [encs_one]; have := numB_len (8 + nu) n (by omega) hn; omega
  have hg1 := getReq_put he (by omega) (askHv_q dl M) hrt _ hxt hxl
  have hg2 := getResp_put (v := v') he (by omega) hv' hrr _ hxt hxl
  rw [encs_one] at hg1 hg2
  have b1 := reqBytes_len (by omega) (askHv_q dl M) hrt
  have b2 := respBytes_len (v := v') (by omega) hv' hrr
  have k1 : kindL (reqBytes (tN t) dl (q % 6) (askSb L) (askUn dl M) (askHv dl M) (askDet q d)) = 1 := rfl
  have k2 : kindL (respBytes (tN t') dl' (mo' && dl') (1 + q' % 6) v' (tellRs (tN t') L') (tellRm dl' M')) = 2 := rfl
  have hn1 := getResp_none he _ (Nat.le_trans b1 (by decide)) (by rw [k1]; decide)
  have hn2 := getReq_none he _ (Nat.le_trans b2 (by decide)) (by rw [k2]; decide)
  have hn3 := getPing_ctr he _ (Nat.le_trans b1 (by decide))
  rw [show pingR (reqBytes (tN t) dl (q % 6) (askSb L) (askUn dl M) (askHv dl M) (askDet q d)) = none by rw [pingR, if_neg (by rw [k1]; decide)]] at hn3
  have hn4 := getStatus_ctr he _ (Nat.le_trans b2 (by decide))
  rw [show statR (respBytes (tN t') dl' (mo' && dl') (1 + q' % 6) v' (tellRs (tN t') L') (tellRm dl' M')) = none by rw [statR, if_neg (by rw [k2]; decide)]] at hn4
  have hpg := ping_ctr n hn
  have hpl := pingB_len hn
  have hgp := getPing_ctr he (pingB n) (by omega)
  rw [pingR_ping hn] at hgp
  have hk1 := kind_any (reqBytes (tN t) dl (q % 6) (askSb L) (askUn dl M) (askHv dl M) (askDet q d))
  rw [k1] at hk1
  have hk2 := kind_any (respBytes (tN t') dl' (mo' && dl') (1 + q' % 6) v' (tellRs (tN t') L') (tellRm dl' M'))
  rw [k2] at hk2
  have ht1 := texts_ctr (askSb L) (askSb L) (by have := askSb_len L; omega) (by have := askSb_len L; omega)
  rw [decide_eq_true rfl] at ht1
  have ht2 := texts_ctr (tellRm dl' M') (tellRm dl' M') (by have := tellRm_len dl' M'; omega) (by have := tellRm_len dl' M'; omega)
  rw [decide_eq_true rfl] at ht2
  have hm1 := numB_len (8 + nu) n (by omega) hn
  simp only [reqRV, respRV, statV, Option.getD_none, Option.getD_some, Option.isSome_none, Option.isSome_some] at hn1 hn2 hn3 hn4 hgp
  clear hrt hrr hxt hxl k1 k2
  generalize reqBytes (tN t) dl (q % 6) (askSb L) (askUn dl M) (askHv dl M) (askDet q d) = st at *
  generalize respBytes (tN t') dl' (mo' && dl') (1 + q' % 6) v' (tellRs (tN t') L') (tellRm dl' M') = rt at *
  generalize numB (8 + nu) n = mr at *
  have hap1 : ∀ (a : Oper) (l m : List Oper), List.append (a :: l) m = a :: List.append l m := fun _ _ _ => rfl
  have hap0 : ∀ m : List Oper, List.append [] m = m := fun _ => rfl
  refine CtrF.less ?_
  intro X0 hP0 hG0 N0 hN0
  refine CallVC.inline (f := 7) (by rw [hP0]; exact Tryz.func7) rfl Tryz.ntmps7 rfl (by simp) ?_
  intro X K hU hnt hbl hK
  have hP : X.P = Tryz.prog := hU.P.trans hP0
  have hG := hG0.under hU
  have hT := Ty.T7 hP
  simp only [GA, ↓GB, GX, simprocAttr] at hbl ⊢
  have hGA := hG.a
  have hGB := hG.b
  replace hG := hG.k
  repeat' (first
    | (refine SX.seqK ?_; intro N hN)
    | ((first | (refine SX.ops ?_)); simp only [GA, ↓GB, GX, simprocAttr, hnt, hT, hw1, hw2, hap1, hap0])
    | ((first | refine SX.skip ?_ | refine SX.exit ?_ | refine SX.label ?_ | refine SX.ret ?_); try simp only [GA, ↓GB, GX, simprocAttr])
    | (refine hN _ ?_; clear hN N)
    | ((first | refine hK _ _ (FinI.ret3 ?_) | refine hK _ _ (FinI.nrm3 ?_)); simp only [GA, ↓GB, GX, simprocAttr, finP_s, hnt, hT, hw1, hw2, hap1, hap0]; refine Done.out ?_)
    | ((first | refine SX.cond rfl (fun hb => ?_) (fun hb => ?_) | (refine bif2.mk (fun hb => ?_) (fun hb => ?_) <;> (try simp only [hb, GA, ↓GB, GX, simprocAttr, hnt, hT, hw1, hw2, hap1, hap0]))) <;> ((first | cases hb | (simp only [HBs] at hb) | skip) <;> (first | (exfalso; omega) | skip)))
    | ((first | (refine Ctr.use (hex) hP hG [] ?_ rfl rfl ?_; (focus (refine LeR.of rfl trivial ?_ ?_ ?_ ?_ ?_ <;> first | decide | (simp only [GA, ↓GB, GX, simprocAttr, GDs]; done))); intro os' s hR; obtain ⟨rfl, rfl⟩ := hR) | (refine CtrF.use (hask) hP (fun X' hU => hGA.under hU) [] ?_ rfl rfl ?_; (focus (refine LeR.of rfl trivial ?_ ?_ ?_ ?_ ?_ <;> first | decide | (simp only [GA, ↓GB, GX, simprocAttr, GDs]; done))); intro os' s hR; obtain ⟨rfl, rfl⟩ := hR) | (refine CtrF.use (htell) hP (fun X' hU => hGB.under hU) [] ?_ rfl rfl ?_; (focus (refine LeR.of rfl trivial ?_ ?_ ?_ ?_ ?_ <;> first | decide | (simp only [GA, ↓GB, GX, simprocAttr, GDs]; done))); intro os' s hR; obtain ⟨rfl, rfl⟩ := hR) | (refine CallVC.pv hP (hnum) rfl ?_) | (refine CallQ.pv hP (hnum) rfl ?_) | (refine Ctr.use (hpt) hP ?_ [2,3,4] ?_ rfl rfl ?_; (focus (intro p hp; cases hp)); (focus (refine LeR.of rfl trivial ?_ ?_ ?_ ?_ ?_ <;> first | decide | (simp only [GA, ↓GB, GX, simprocAttr, GDs]; done))); intro os' s hR; obtain ⟨rfl, rfl⟩ := hR) | (refine Ctr.use (hpr) hP ?_ [6,7] ?_ rfl rfl ?_; (focus (intro p hp; cases hp)); (focus (refine LeR.of rfl trivial ?_ ?_ ?_ ?_ ?_ <;> first | decide | (simp only [GA, ↓GB, GX, simprocAttr, GDs]; done))); intro os' s hR; obtain ⟨rfl, rfl⟩ := hR) | (refine Ctr.use (hg1) hP hG [] ?_ rfl rfl ?_; (focus (refine LeR.of rfl trivial ?_ ?_ ?_ ?_ ?_ <;> first | decide | (simp only [GA, ↓GB, GX, simprocAttr, GDs]; done))); intro os' s hR; obtain ⟨rfl, rfl⟩ := hR) | (refine Ctr.use (hg2) hP hG [] ?_ rfl rfl ?_; (focus (refine LeR.of rfl trivial ?_ ?_ ?_ ?_ ?_ <;> first | decide | (simp only [GA, ↓GB, GX, simprocAttr, GDs]; done))); intro os' s hR; obtain ⟨rfl, rfl⟩ := hR) | (refine Ctr.use (hn1) hP hG [] ?_ rfl rfl ?_; (focus (refine LeR.of rfl trivial ?_ ?_ ?_ ?_ ?_ <;> first | decide | (simp only [GA, ↓GB, GX, simprocAttr, GDs]; done))); intro os' s hR; obtain ⟨rfl, rfl⟩ := hR) | (refine Ctr.use (hn2) hP hG [] ?_ rfl rfl ?_; (focus (refine LeR.of rfl trivial ?_ ?_ ?_ ?_ ?_ <;> first | decide | (simp only [GA, ↓GB, GX, simprocAttr, GDs]; done))); intro os' s hR; obtain ⟨rfl, rfl⟩ := hR) | (refine Ctr.use (hn3) hP hG [] ?_ rfl rfl ?_; (focus (refine LeR.of rfl trivial ?_ ?_ ?_ ?_ ?_ <;> first | decide | (simp only [GA, ↓GB, GX, simprocAttr, GDs]; done))); intro os' s hR; obtain ⟨rfl, rfl⟩ := hR) | (refine Ctr.use (hn4) hP hG [] ?_ rfl rfl ?_; (focus (refine LeR.of rfl trivial ?_ ?_ ?_ ?_ ?_ <;> first | decide | (simp only [GA, ↓GB, GX, simprocAttr, GDs]; done))); intro os' s hR; obtain ⟨rfl, rfl⟩ := hR) | (refine Ctr.use (hpg) hP ?_ [] ?_ rfl rfl ?_; (focus (intro p hp; cases hp)); (focus (refine LeR.of rfl trivial ?_ ?_ ?_ ?_ ?_ <;> first | decide | (simp only [GA, ↓GB, GX, simprocAttr, GDs]; done))); intro os' s hR; obtain ⟨rfl, rfl⟩ := hR) | (refine Ctr.use (hgp) hP hG [] ?_ rfl rfl ?_; (focus (refine LeR.of rfl trivial ?_ ?_ ?_ ?_ ?_ <;> first | decide | (simp only [GA, ↓GB, GX, simprocAttr, GDs]; done))); intro os' s hR; obtain ⟨rfl, rfl⟩ := hR) | (refine CallVC.pv hP (hk1) rfl ?_) | (refine CallQ.pv hP (hk1) rfl ?_) | (refine CallVC.pv hP (hk2) rfl ?_) | (refine CallQ.pv hP (hk2) rfl ?_) | (refine Ctr.use (ht1) hP ?_ [9,2] ?_ rfl rfl ?_; (focus (intro p hp; cases hp)); (focus (refine LeR.of rfl trivial ?_ ?_ ?_ ?_ ?_ <;> first | decide | (simp only [GA, ↓GB, GX, simprocAttr, GDs]; done))); intro os' s hR; obtain ⟨rfl, rfl⟩ := hR) | (refine Ctr.use (ht2) hP ?_ [14,7] ?_ rfl rfl ?_; (focus (intro p hp; cases hp)); (focus (refine LeR.of rfl trivial ?_ ?_ ?_ ?_ ?_ <;> first | decide | (simp only [GA, ↓GB, GX, simprocAttr, GDs]; done))); intro os' s hR; obtain ⟨rfl, rfl⟩ := hR)); simp only [GA, ↓GB, GX, simprocAttr, hnt, hT, hw1, hw2, hap1, hap0])
    | (refine and_mk ?_ ?_; (focus first | decide | omega | rfl | assumption | (simp only [LBs]; omega) | (simp; done)))
    | (refine And.intro ?_ ?_))
  all_goals (try refine Done.mk ?_)
  all_goals ((refine hN0 _ _ ⟨[], _, _, ?_, ?_, ?_, ⟨rfl, rfl⟩⟩; (focus exact LeR.of rfl trivial (by simp only [GA, ↓GB, GX, simprocAttr, GDs]) (by decide) rfl rfl rfl); rotate_left; (focus rfl)); rfl)
end Go.Proofs.YtbdacbcpniegiaaGreatDoor.Q
namespace Go.Proofs.YtbdacbcpniegiaaGreatDoor.Q
open Go Go.RowKit Go.ChangeShapes Go.WideShapes Go.ChangeAt Go.Sx Go.Proofs Go.Proofs.YtbdacbcpniegiaaGreatDoor
theorem ctrF_calls {P : Program} {F : Ctx → Prop} {f : FuncId} {args : List SV} {R : List LO → SV → Prop} (h : CtrF P F f [] args R) (w : World) (hF : F ⟨P, w, [], 0, []⟩) {vals : List Value} (ha : All2 (DV []) args vals) :
    Calls P f vals.toArray w fun e w' => ∃ v os' s σ', e = .returned v ∧ R os' s ∧ DV σ' s v ∧ Below w.heap.size w w' := by
  have hr : Rel ⟨P, w, [], 0, []⟩ ⟨[], []⟩ [] [] { tmps := #[], defers := [] } w :=
    ⟨fun t s h => by simp at h, rfl, rfl, fun i o fp v h => by simp at h, by simp, fun b h => by simp at h, fun b h => by simp at h, Fr.refl _ _, rfl, rfl, fun v h => by simp at h, fun i v h => by simp at h⟩
  refine (h ⟨P, w, [], 0, []⟩ rfl hF (fun c s => ∃ os', c = ⟨[], os'⟩ ∧ R os' s) (fun os' s hR => ⟨os', rfl, hR⟩) _ _ _ _ hr vals ha).mono ?_
  rintro e w' ⟨v, c', ρ', σ', s, rfl, hr', hd, os', rfl, hR⟩
  exact ⟨v, os', s, σ', rfl, hR, hd, hr'.low.below (by simp)⟩
theorem sl_cell {H : Type} {enc : TypeId × Value → H} {P : Program} {W : World} {sp : Nat → Bool} {held : Bool} {n base t e : Nat} {cs : List Value} {x : DataW H × List MemPlace} (ht : P.underlying t = some (.slice e))
    (h : DataW.trod enc P W base sp held n t cs = some x) : ∃ a l c, cs = [.slice a l c] := by
  rcases Go.Deep.open_slice ht h with ⟨hcs, _⟩ | ⟨a, l, c, m, k, D, Pl, hcs, _⟩
  · exact ⟨_, _, _, hcs⟩
  · exact ⟨_, _, _, hcs⟩
theorem c41 : Tryz.prog.cellsOf 26 = 7 := by kernel_rfl
theorem c81 : Tryz.prog.cellsOf 68 = 7 := by kernel_rfl
theorem c78 : Tryz.prog.cellsOf 29 = 10 := by kernel_rfl
theorem c83 : Tryz.prog.cellsOf 70 = 10 := by kernel_rfl
theorem k3 : Tryz.prog.cellsOf 3 = 1 := by kernel_rfl
theorem k4 : Tryz.prog.cellsOf 4 = 1 := by kernel_rfl
theorem k9 : Tryz.prog.cellsOf 9 = 1 := by kernel_rfl
theorem k22 : Tryz.prog.cellsOf 22 = 1 := by kernel_rfl
theorem k38 : Tryz.prog.cellsOf 23 = 1 := by kernel_rfl
theorem k39 : Tryz.prog.cellsOf 24 = 1 := by kernel_rfl
theorem k58 : Tryz.prog.cellsOf 27 = 1 := by kernel_rfl
theorem k79 : Tryz.prog.cellsOf 66 = 1 := by kernel_rfl
theorem req_cells {H : Type} {enc : TypeId × Value → H} {W : World} {sp : Nat → Bool} {held : Bool} {n base : Nat} {cs : List Value} {x : DataW H × List MemPlace}
    (h : DataW.trod enc Tryz.prog W base sp held n 26 cs = some x) : ∃ (t : Int) (dl : Bool) (q : Nat) (a0 : Option Addr) (n0 c0 : Nat) (a1 : Option Addr) (n1 c1 : Nat) (a2 : Option Addr) (n2 c2 : Nat) (d : List UInt8), q < 18446744073709551616 ∧ d.length ≤ 9223372036854775807 ∧
      cs = [.int .i64 t, .bool dl, .int .u64 q, .slice a0 n0 c0, .slice a1 n1 c1, .slice a2 n2 c2, .string (B d)] := by
  obtain ⟨ys, m, rfl, _, hl, hys, hf⟩ := DataW.trod_struct Tryz.underlying26 h
  rw [c41] at hl
  have g0 : DataW.trod enc Tryz.prog W base sp held m 3 ((cs.drop 0).take (Tryz.prog.cellsOf 3)) = ys[0]? := hf 0 _ rfl
  have g1 : DataW.trod enc Tryz.prog W base sp held m 4 ((cs.drop 1).take (Tryz.prog.cellsOf 4)) = ys[1]? := hf 1 _ rfl
  have g2 : DataW.trod enc Tryz.prog W base sp held m 22 ((cs.drop 2).take (Tryz.prog.cellsOf 22)) = ys[2]? := hf 2 _ rfl
  have g3 : DataW.trod enc Tryz.prog W base sp held m 23 ((cs.drop 3).take (Tryz.prog.cellsOf 23)) = ys[3]? := hf 3 _ rfl
  have g4 : DataW.trod enc Tryz.prog W base sp held m 23 ((cs.drop 4).take (Tryz.prog.cellsOf 23)) = ys[4]? := hf 4 _ rfl
  have g5 : DataW.trod enc Tryz.prog W base sp held m 24 ((cs.drop 5).take (Tryz.prog.cellsOf 24)) = ys[5]? := hf 5 _ rfl
  have g6 : DataW.trod enc Tryz.prog W base sp held m 9 ((cs.drop 6).take (Tryz.prog.cellsOf 9)) = ys[6]? := hf 6 _ rfl
  have hy : ys.length = 7 := hys
  rw [k3, List.getElem?_eq_getElem (by omega)] at g0
  rw [k4, List.getElem?_eq_getElem (by omega)] at g1
  rw [k22, List.getElem?_eq_getElem (by omega)] at g2
  rw [k38, List.getElem?_eq_getElem (by omega)] at g3
  rw [k38, List.getElem?_eq_getElem (by omega)] at g4
  rw [k39, List.getElem?_eq_getElem (by omega)] at g5
  rw [k9, List.getElem?_eq_getElem (by omega)] at g6
  obtain ⟨t, e0, _, w0⟩ := DataW.trod_int Tryz.underlying3 g0
  obtain ⟨dl, e1, _⟩ := DataW.trod_bool Tryz.underlying4 g1
  obtain ⟨q, e2, _, w2⟩ := DataW.trod_int Tryz.underlying22 g2
  obtain ⟨a0, n0, c0, e3⟩ := sl_cell Tryz.underlying23 g3
  obtain ⟨a1, n1, c1, e4⟩ := sl_cell Tryz.underlying23 g4
  obtain ⟨a2, n2, c2, e5⟩ := sl_cell Tryz.underlying24 g5
  obtain ⟨d, e6, _, w6⟩ := DataW.trod_string Tryz.underlying9 g6
  have f0 := at1 e0
  have f1 := at1 e1
  have f2 := at1 e2
  have f3 := at1 e3
  have f4 := at1 e4
  have f5 := at1 e5
  have f6 := at1 e6
  have b2 := u64_of w2
  have r2 : ((q.toNat : Nat) : Int) = q := by omega
  refine ⟨t, dl, q.toNat, a0, n0, c0, a1, n1, c1, a2, n2, c2, d.data.toList, by omega, by simpa [maxLen] using w6, ?_⟩
  match cs, hl with
  | [x0, x1, x2, x3, x4, x5, x6], _ =>
    simp only [List.getElem?_cons_zero, List.getElem?_cons_succ, Option.some.injEq] at f0 f1 f2 f3 f4 f5 f6
    subst f0 f1 f2 f3 f4 f5 f6
    simp only [B_data, r2]
theorem resp_cells {H : Type} {enc : TypeId × Value → H} {W : World} {sp : Nat → Bool} {held : Bool} {n base : Nat} {cs : List Value} {x : DataW H × List MemPlace}
    (h : DataW.trod enc Tryz.prog W base sp held n 68 cs = some x) : ∃ (t : Int) (dl mo : Bool) (q v : Nat) (a0 : Option Addr) (n0 c0 : Nat) (a1 : Option Addr) (n1 c1 : Nat), q < 18446744073709551616 ∧ v < 18446744073709551616 ∧
      cs = [.int .i64 t, .bool dl, .bool mo, .int .u64 q, .int .u64 v, .slice a0 n0 c0, .slice a1 n1 c1] := by
  obtain ⟨ys, m, rfl, _, hl, hys, hf⟩ := DataW.trod_struct Tryz.underlying68 h
  rw [c81] at hl
  have g0 : DataW.trod enc Tryz.prog W base sp held m 3 ((cs.drop 0).take (Tryz.prog.cellsOf 3)) = ys[0]? := hf 0 _ rfl
  have g1 : DataW.trod enc Tryz.prog W base sp held m 4 ((cs.drop 1).take (Tryz.prog.cellsOf 4)) = ys[1]? := hf 1 _ rfl
  have g2 : DataW.trod enc Tryz.prog W base sp held m 4 ((cs.drop 2).take (Tryz.prog.cellsOf 4)) = ys[2]? := hf 2 _ rfl
  have g3 : DataW.trod enc Tryz.prog W base sp held m 22 ((cs.drop 3).take (Tryz.prog.cellsOf 22)) = ys[3]? := hf 3 _ rfl
  have g4 : DataW.trod enc Tryz.prog W base sp held m 22 ((cs.drop 4).take (Tryz.prog.cellsOf 22)) = ys[4]? := hf 4 _ rfl
  have g5 : DataW.trod enc Tryz.prog W base sp held m 66 ((cs.drop 5).take (Tryz.prog.cellsOf 66)) = ys[5]? := hf 5 _ rfl
  have g6 : DataW.trod enc Tryz.prog W base sp held m 23 ((cs.drop 6).take (Tryz.prog.cellsOf 23)) = ys[6]? := hf 6 _ rfl
  have hy : ys.length = 7 := hys
  rw [k3, List.getElem?_eq_getElem (by omega)] at g0
  rw [k4, List.getElem?_eq_getElem (by omega)] at g1
  rw [k4, List.getElem?_eq_getElem (by omega)] at g2
  rw [k22, List.getElem?_eq_getElem (by omega)] at g3
  rw [k22, List.getElem?_eq_getElem (by omega)] at g4
  rw [k79, List.getElem?_eq_getElem (by omega)] at g5
  rw [k38, List.getElem?_eq_getElem (by omega)] at g6
  obtain ⟨t, e0, _, w0⟩ := DataW.trod_int Tryz.underlying3 g0
  obtain ⟨dl, e1, _⟩ := DataW.trod_bool Tryz.underlying4 g1
  obtain ⟨mo, e2, _⟩ := DataW.trod_bool Tryz.underlying4 g2
  obtain ⟨q, e3, _, w3⟩ := DataW.trod_int Tryz.underlying22 g3
  obtain ⟨v, e4, _, w4⟩ := DataW.trod_int Tryz.underlying22 g4
  obtain ⟨a0, n0, c0, e5⟩ := sl_cell Tryz.underlying66 g5
  obtain ⟨a1, n1, c1, e6⟩ := sl_cell Tryz.underlying23 g6
  have f0 := at1 e0
  have f1 := at1 e1
  have f2 := at1 e2
  have f3 := at1 e3
  have f4 := at1 e4
  have f5 := at1 e5
  have f6 := at1 e6
  have b3 := u64_of w3
  have b4 := u64_of w4
  have r3 : ((q.toNat : Nat) : Int) = q := by omega
  have r4 : ((v.toNat : Nat) : Int) = v := by omega
  refine ⟨t, dl, mo, q.toNat, v.toNat, a0, n0, c0, a1, n1, c1, by omega, by omega, ?_⟩
  match cs, hl with
  | [x0, x1, x2, x3, x4, x5, x6], _ =>
    simp only [List.getElem?_cons_zero, List.getElem?_cons_succ, Option.some.injEq] at f0 f1 f2 f3 f4 f5 f6
    subst f0 f1 f2 f3 f4 f5 f6
    simp only [r3, r4]
theorem lm_cells {H : Type} {enc : TypeId × Value → H} {W : World} {n : Nat} {cs : List Value} {x : DataW H × List MemPlace}
    (h : DataW.trod enc Tryz.prog W 0 (fun _ => true) true n 27 cs = some x) : ∃ (q : Option Addr) (L : List UInt8) (c : Nat), cs = [.slice q L.length c] ∧ ∀ i, i < L.length → ∃ ad, q = some ad ∧ W.cell? (ad.add (i * 1)) = some (.int .u8 ((L.getD i 0).toNat : Nat)) := by
  obtain ⟨a, l, c, rfl⟩ := sl_cell Tryz.underlying27 h
  obtain ⟨xs, rfl, hc⟩ := u8row (a := a) (len := l) (cap := c) (d := x.1) (p := x.2) Tryz.underlying27 Tryz.underlying5 (by kernel_rfl) ⟨n, h⟩
  exact ⟨a, xs, c, rfl, hc⟩
structure Ak where
  t : Int
  dl : Bool
  q : Nat
  a0 : Option Addr
  n0 : Nat
  c0 : Nat
  a1 : Option Addr
  n1 : Nat
  c1 : Nat
  a2 : Option Addr
  n2 : Nat
  c2 : Nat
  d : List UInt8
  o : Bool
  qL : Option Addr
  L : List UInt8
  cL : Nat
  qM : Option Addr
  M : List UInt8
  cM : Nat
def Ak.cells (x : Ak) : List Value := [.int .i64 x.t, .bool x.dl, .int .u64 x.q, .slice x.a0 x.n0 x.c0, .slice x.a1 x.n1 x.c1, .slice x.a2 x.n2 x.c2, .string (B x.d), .bool x.o, .slice x.qL x.L.length x.cL, .slice x.qM x.M.length x.cM]
def FarW (W : World) (q : Option Addr) (L : List UInt8) : Prop := ∀ i, i < L.length → ∃ ad, q = some ad ∧ W.cell? (ad.add (i * 1)) = some (.int .u8 ((L.getD i 0).toNat : Nat))
theorem FarW.far {P : Program} {w : World} {q : Option Addr} {L : List UInt8} (h : FarW w q L) : FarU ⟨P, w, [], 0, []⟩ q L := fun i hi => by
  obtain ⟨ad, e, hc⟩ := h i hi
  exact ⟨ad, e, by simp, hc⟩
structure Ak.Ok (x : Ak) (W : World) : Prop where
  q : x.q < 18446744073709551616
  d : x.d.length ≤ 9223372036854775807
  l : FarW W x.qL x.L
  m : FarW W x.qM x.M
theorem ask_in {H : Type} {enc : TypeId × Value → H} {W : World} {cs : Array Value} {d : DataW H} {p : List MemPlace} (h : DataW.Trod enc Tryz.prog W 0 (fun _ => true) true 29 (.agg cs) d p) : ∃ y : Ak, y.Ok W ∧ cs = y.cells.toArray := by
  obtain ⟨n, hn⟩ := h
  have hn : DataW.trod enc Tryz.prog W 0 (fun _ => true) true n 29 cs.toList = some (d, p) := hn
  obtain ⟨ys, m, _, _, hl, hys, hf⟩ := DataW.trod_struct Tryz.underlying29 hn
  rw [c78] at hl
  have g0 : DataW.trod enc Tryz.prog W 0 (fun _ => true) true m 26 ((cs.toList.drop 0).take (Tryz.prog.cellsOf 26)) = ys[0]? := hf 0 _ rfl
  have g1 : DataW.trod enc Tryz.prog W 0 (fun _ => true) true m 4 ((cs.toList.drop 7).take (Tryz.prog.cellsOf 4)) = ys[1]? := hf 1 _ rfl
  have g2 : DataW.trod enc Tryz.prog W 0 (fun _ => true) true m 27 ((cs.toList.drop 8).take (Tryz.prog.cellsOf 27)) = ys[2]? := hf 2 _ rfl
  have g3 : DataW.trod enc Tryz.prog W 0 (fun _ => true) true m 27 ((cs.toList.drop 9).take (Tryz.prog.cellsOf 27)) = ys[3]? := hf 3 _ rfl
  have hy : ys.length = 4 := hys
  rw [c41, List.getElem?_eq_getElem (by omega)] at g0
  rw [k4, List.getElem?_eq_getElem (by omega)] at g1
  rw [k58, List.getElem?_eq_getElem (by omega)] at g2
  rw [k58, List.getElem?_eq_getElem (by omega)] at g3
  obtain ⟨t, dl, q, a0, n0, c0, a1, n1, c1, a2, n2, c2, s, hq, hd, e0⟩ := req_cells g0
  obtain ⟨o, e1, _⟩ := DataW.trod_bool Tryz.underlying4 g1
  obtain ⟨qL, L, cL, e2, hL⟩ := lm_cells g2
  obtain ⟨qM, M, cM, e3, hM⟩ := lm_cells g3
  have f1 := at1 e1
  have f2 := at1 e2
  have f3 := at1 e3
  refine ⟨⟨t, dl, q, a0, n0, c0, a1, n1, c1, a2, n2, c2, s, o, qL, L, cL, qM, M, cM⟩, ⟨hq, hd, hL, hM⟩, ?_⟩
  rw [← Array.toArray_toList (xs := cs)]
  congr 1
  revert hl f1 f2 f3 e0
  generalize cs.toList = l
  intro hl e0 f1 f2 f3
  match l, hl with
  | [x0, x1, x2, x3, x4, x5, x6, x7, x8, x9], _ =>
    simp only [List.getElem?_cons_zero, List.getElem?_cons_succ, Option.some.injEq] at f1 f2 f3
    subst f1 f2 f3
    have e0 : [x0, x1, x2, x3, x4, x5, x6] = _ := e0
    simp only [List.cons.injEq, and_true] at e0
    obtain ⟨rfl, rfl, rfl, rfl, rfl, rfl, rfl⟩ := e0
    rfl
structure Tk where
  t : Int
  dl : Bool
  mo : Bool
  q : Nat
  v : Nat
  a0 : Option Addr
  n0 : Nat
  c0 : Nat
  a1 : Option Addr
  n1 : Nat
  c1 : Nat
  o : Bool
  qL : Option Addr
  L : List UInt8
  cL : Nat
  qM : Option Addr
  M : List UInt8
  cM : Nat
def Tk.cells (x : Tk) : List Value := [.int .i64 x.t, .bool x.dl, .bool x.mo, .int .u64 x.q, .int .u64 x.v, .slice x.a0 x.n0 x.c0, .slice x.a1 x.n1 x.c1, .bool x.o, .slice x.qL x.L.length x.cL, .slice x.qM x.M.length x.cM]
structure Tk.Ok (x : Tk) (W : World) : Prop where
  q : x.q < 18446744073709551616
  v : x.v < 18446744073709551616
  l : FarW W x.qL x.L
  m : FarW W x.qM x.M
theorem tell_in {H : Type} {enc : TypeId × Value → H} {W : World} {cs : Array Value} {d : DataW H} {p : List MemPlace} (h : DataW.Trod enc Tryz.prog W 0 (fun _ => true) true 70 (.agg cs) d p) : ∃ y : Tk, y.Ok W ∧ cs = y.cells.toArray := by
  obtain ⟨n, hn⟩ := h
  have hn : DataW.trod enc Tryz.prog W 0 (fun _ => true) true n 70 cs.toList = some (d, p) := hn
  obtain ⟨ys, m, _, _, hl, hys, hf⟩ := DataW.trod_struct Tryz.underlying70 hn
  rw [c83] at hl
  have g0 : DataW.trod enc Tryz.prog W 0 (fun _ => true) true m 68 ((cs.toList.drop 0).take (Tryz.prog.cellsOf 68)) = ys[0]? := hf 0 _ rfl
  have g1 : DataW.trod enc Tryz.prog W 0 (fun _ => true) true m 4 ((cs.toList.drop 7).take (Tryz.prog.cellsOf 4)) = ys[1]? := hf 1 _ rfl
  have g2 : DataW.trod enc Tryz.prog W 0 (fun _ => true) true m 27 ((cs.toList.drop 8).take (Tryz.prog.cellsOf 27)) = ys[2]? := hf 2 _ rfl
  have g3 : DataW.trod enc Tryz.prog W 0 (fun _ => true) true m 27 ((cs.toList.drop 9).take (Tryz.prog.cellsOf 27)) = ys[3]? := hf 3 _ rfl
  have hy : ys.length = 4 := hys
  rw [c81, List.getElem?_eq_getElem (by omega)] at g0
  rw [k4, List.getElem?_eq_getElem (by omega)] at g1
  rw [k58, List.getElem?_eq_getElem (by omega)] at g2
  rw [k58, List.getElem?_eq_getElem (by omega)] at g3
  obtain ⟨t, dl, mo, q, v, a0, n0, c0, a1, n1, c1, hq, hv, e0⟩ := resp_cells g0
  obtain ⟨o, e1, _⟩ := DataW.trod_bool Tryz.underlying4 g1
  obtain ⟨qL, L, cL, e2, hL⟩ := lm_cells g2
  obtain ⟨qM, M, cM, e3, hM⟩ := lm_cells g3
  have f1 := at1 e1
  have f2 := at1 e2
  have f3 := at1 e3
  refine ⟨⟨t, dl, mo, q, v, a0, n0, c0, a1, n1, c1, o, qL, L, cL, qM, M, cM⟩, ⟨hq, hv, hL, hM⟩, ?_⟩
  rw [← Array.toArray_toList (xs := cs)]
  congr 1
  revert hl f1 f2 f3 e0
  generalize cs.toList = l
  intro hl e0 f1 f2 f3
  match l, hl with
  | [x0, x1, x2, x3, x4, x5, x6, x7, x8, x9], _ =>
    simp only [List.getElem?_cons_zero, List.getElem?_cons_succ, Option.some.injEq] at f1 f2 f3
    subst f1 f2 f3
    have e0 : [x0, x1, x2, x3, x4, x5, x6] = _ := e0
    simp only [List.cons.injEq, and_true] at e0
    obtain ⟨rfl, rfl, rfl, rfl, rfl, rfl, rfl⟩ := e0
    rfl
end Go.Proofs.YtbdacbcpniegiaaGreatDoor.Q
namespace Go.Proofs.YtbdacbcpniegiaaGreatDoor.Q
open Go Go.RowKit Go.ChangeShapes Go.WideShapes Go.ChangeAt Go.Sx Go.Proofs Go.Proofs.YtbdacbcpniegiaaGreatDoor
theorem _root_.Go.Proofs.YtbdacbcpniegiaaGreatDoor.u16_of {n : Int} (h : (Lit.int .u16 n).wf = true) : 0 ≤ n ∧ n < 65536 := by
  simp only [Lit.wf, Bool.and_eq_true, decide_eq_true_eq] at h
  have e1 : IntKind.u16.min = 0 := rfl
  have e2 : IntKind.u16.max = 65535 := rfl
  omega
theorem back_any (x : Ak) (y : Tk) (n : Nat) (hn : n < 18446744073709551616) (nu : Nat) (hnu : nu < 65536) (w : World) (hx : x.Ok w) (hy : y.Ok w) {e : EA} (he : e.Ok) (hG : ∀ p ∈ GE e, w.cell? p.1 = some p.2 ∧ loneStr w p) :
    Calls Tryz.prog 7 #[.agg x.cells.toArray, .agg y.cells.toArray, .int .u64 n, .int .u16 nu] w fun x w' => x = .returned (.bool true) ∧ Below w.heap.size w w' := by
  refine (ctrF_calls (back_ctr he x.t x.dl x.q hx.q x.d hx.d x.a0 x.n0 x.c0 x.a1 x.n1 x.c1 x.a2 x.n2 x.c2 x.o x.qL x.L x.cL x.qM x.M x.cM y.t y.dl y.mo y.q y.v hy.q hy.v y.a0 y.n0 y.c0 y.a1 y.n1 y.c1 y.o y.qL y.L y.cL y.qM y.M y.cM n hn nu hnu) w
    ⟨fun p hp => ⟨(hG p hp).1, by simp, (hG p hp).2⟩, ⟨hx.l.far, hx.m.far⟩, ⟨hy.l.far, hy.m.far⟩⟩ (vals := [.agg x.cells.toArray, .agg y.cells.toArray, .int .u64 n, .int .u16 nu])
    ⟨⟨_, rfl, rfl, rfl, rfl, rfl, rfl, rfl, rfl, rfl, rfl, rfl, trivial⟩, ⟨_, rfl, rfl, rfl, rfl, rfl, rfl, rfl, rfl, rfl, rfl, rfl, trivial⟩, rfl, rfl, trivial⟩).mono ?_
  rintro x w' ⟨v, os', s, σ', rfl, ⟨rfl, rfl⟩, hd, hb⟩
  have hd : v = .bool true := hd
  subst hd
  exact ⟨rfl, hb⟩
end Go.Proofs.YtbdacbcpniegiaaGreatDoor.Q
