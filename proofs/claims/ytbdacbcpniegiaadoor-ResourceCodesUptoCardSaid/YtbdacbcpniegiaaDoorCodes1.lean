/- Own work: a part of the symbolic executor and of the walks of the functions that the claim reaches. -/
import Derived.Test.YtbdacbcpniegiaaDoorBase4
import Derived.Laws.IdiomStrings
set_option maxRecDepth 100000
set_option maxHeartbeats 64000000
set_option linter.unusedSimpArgs false
set_option linter.unusedVariables false
namespace Go.Proofs.YtbdacbcpniegiaaDoor
open Go Go.RowKit Go.Proofs Go.Sx
theorem rv8a (m : Nat) : IntKind.u8.wrap (IntKind.u64.wrap ((m : Int).tmod 128 + 128)) = ((UInt8.ofNat (m % 128 + 128)).toNat : Int) := by
  rw [show ((m : Int).tmod 128) = ((m % 128 : Nat) : Int) from rfl, wU64 (by omega) (by omega), IntKind.wrap_u8]
  simp [UInt8.toNat_ofNat']
theorem rv8b (m : Nat) : IntKind.u8.wrap (m : Int) = ((UInt8.ofNat m).toNat : Int) := by rw [IntKind.wrap_u8]; simp [UInt8.toNat_ofNat']
theorem rv8c (m : Nat) (h : m < 18446744073709551616) : IntKind.u64.wrap ((m : Int).tdiv 128) = ((m / 128 : Nat) : Int) := by
  rw [show ((m : Int).tdiv 128) = ((m / 128 : Nat) : Int) from rfl, wU64 (by omega) (by omega)]
theorem rVarint_any (n : Nat) (hn : n < 18446744073709551616) (w : World) :
    Calls Tryd.prog 162 #[.int .u64 n] w fun e w' => e = .returned (.string (B (NW.varint n))) ∧ Below w.heap.size w w' := by
  have hlen := NW.varint_len10 (n := n) (by omega)
  refine calls_pureK (args := [.int .u64 n]) w Tryd.func162 rfl Tryd.ntmps162 (by simp) ?_
  intro X K hX hK
  have hnt : X.nt = 21 := by rw [hX]
  have hwi : X.wi = w := by rw [hX]
  have hP : X.P = Tryd.prog := by rw [hX]
  have hown : X.own = [] := by rw [hX]
  have hbl : X.base.length = 0 := by rw [hX]; rfl
  clear hX
  have hT := Ty.T162 hP
  repeat' (first
    | (refine SX.asRow (t := 3) 5 1 rfl ⟨_, rfl⟩ ?_)
    | (refine SX.seqK ?_; intro N hN)
    | ((first | (refine SX.ops ?_)); simp only [GA, ↓GB, GX, simprocAttr, hnt, hT, rv8a, rv8b])
    | ((first | refine SX.skip ?_ | refine SX.exit ?_ | refine SX.label ?_ | refine SX.ret ?_); try simp only [GA, ↓GB, GX, simprocAttr])
    | (refine hN _ ?_; clear hN N)
    | (refine hK _ _ (Fin.res rfl hown ?_); simp only [GA, ↓GB, GX, simprocAttr, f_a, f_b, f_n, f_c, f_B, f_v, f_g, f_0, f_1, f_2, hT, hwi, rv8a, rv8b]; intro w' hbel; refine Done.out ?_)
    | (clear hN N; first | (refine hN _ ?_; clear hN N) | (clear hN N; refine hN _ ?_; clear hN N))
    | ((first | refine SX.cond rfl (fun hb => ?_) (fun hb => ?_) | (refine bif2.mk (fun hb => ?_) (fun hb => ?_) <;> (try simp only [hb, GA, ↓GB, GX, simprocAttr, hnt, hT, rv8a, rv8b]))) <;> ((first | cases hb | (simp only [HBs] at hb) | skip) <;> (first | (exfalso; omega) | skip)))
    | (refine SX.loop (ι := { p : Nat × List UInt8 // p.2 ++ NW.varint p.1 = NW.varint n ∧ p.1 < 18446744073709551616 }) (fun i => ⟨[(0, vv (.int .u64 i.1.1)), (3, .one (.c (.row 0)))], [.row 5 1 i.1.2.length (bcells i.1.2)]⟩) (fun i => i.1.1) ⟨(n, []), by simp, hn⟩ ⟨[0], (LeR.of (by rw [hbl]; decide) (by simp only [GA, ↓GB, GX, simprocAttr, GDs]; try (rfl)) (by simp only [GA, ↓GB, GX, simprocAttr, GDs]; try (rfl)) (by decide) (by simp only [GA, ↓GB, GX, simprocAttr, GDs]) (by simp only [GA, ↓GB, GX, simprocAttr, GDs]) (by simp only [GA, ↓GB, GX, simprocAttr, GDs]))⟩ ?_ <;> rintro ⟨⟨m, l⟩, hml, hm⟩ <;> simp only [] at hml hm ⊢)
    | (refine ⟨l ++ [UInt8.ofNat m], by simp [bcells], ?_⟩)
    | (refine SX.block ?_)
    | (refine and_mk ?_ ?_; (focus first | decide | omega | rfl | assumption | (simp only [LBs]; omega) | (simp; done)))
    | (refine And.intro ?_ ?_))
  all_goals (try refine Done.mk ?_)
  · have := congrArg List.length hml; simp at this; omega
  · refine ⟨⟨(m / 128, l ++ [UInt8.ofNat (m % 128 + 128)]), ?_, by omega⟩, [2], (LeR.of (by rw [hbl]; decide) (by simp only [GA, ↓GB, GX, simprocAttr, GDs]; try (first | (rw [wU64 (by omega) (by omega)]; rfl) | (simp [bcells]; done) | (have := rv8c m hm; simp_all))) (by simp only [GA, ↓GB, GX, simprocAttr, GDs]; try (first | (rw [wU64 (by omega) (by omega)]; rfl) | (simp [bcells]; done) | (have := rv8c m hm; simp_all))) (by decide) (by simp only [GA, ↓GB, GX, simprocAttr, GDs]) (by simp only [GA, ↓GB, GX, simprocAttr, GDs]) (by simp only [GA, ↓GB, GX, simprocAttr, GDs])), by show m / 128 < m; omega⟩
    rw [← hml, NW.varint_ge (by omega : ¬ m < 128)]; simp
  · have := congrArg List.length hml; simp at this; omega
  · refine ⟨?_, hbel⟩
    rw [← hml, NW.varint_lt (by omega)]
theorem rPut_num (num n : Nat) (h1 : 1 ≤ num) (h2 : num < 536870912) (hn : n < 18446744073709551616) (w : World) :
    Calls Tryd.prog 141 #[.agg #[.int .i64 num, .int .i64 0, .int .u64 n, .string (B [])]] w fun e w' => e = .returned (.tuple #[.string (B (numB num n)), .bool true]) ∧ Below w.heap.size w w' := by
  have g1 : decide ((num : Int) < 1) = false := by simp; omega
  have g2 : decide ((536870912 : Int) ≤ num) = false := by simp; omega
  have hl1 := NW.varint_len10 (n := num * 8) (by omega)
  have hl2 := NW.varint_len10 (n := n) (by omega)
  have e1 : IntKind.u64.wrap (IntKind.u64.wrap (IntKind.u64.wrap (num : Int) * 8) + 0) = ((num * 8 : Nat) : Int) := by
    rw [wU64 (x := (num : Int)) (by omega) (by omega), wU64 (x := (num : Int) * 8) (by omega) (by omega), wU64 (by omega) (by omega)]; omega
  refine calls_pureK (args := [.agg #[.int .i64 num, .int .i64 0, .int .u64 n, .string (B [])]]) w Tryd.func141 rfl Tryd.ntmps141 (by simp) ?_
  intro X K hX hK
  have hnt : X.nt = 83 := by rw [hX]
  have hwi : X.wi = w := by rw [hX]
  have hP : X.P = Tryd.prog := by rw [hX]
  have hown : X.own = [] := by rw [hX]
  have hbl : X.base.length = 0 := by rw [hX]; rfl
  clear hX
  have hT := Ty.T141 hP
  repeat' (first
    | (refine SX.seqK ?_; intro N hN)
    | ((first | (refine SX.ops ?_) | (refine SX.planT (id := 10) [.q [(0, [4]), (1, [1]), (2, [74]), (3, [75]), (4, [76]), (5, [77]), (6, [73, 78]), (7, [1]), (8, [80]), (9, [79, 81]), (10, [82]), (11, [])] none] ?_ ?_ ?_; (focus first | (rw [hP]; kernel_rfl) | (rw [hU1P, hP]; kernel_rfl)); (focus kernel_rfl))); simp only [GA, ↓GB, GX, simprocAttr, hnt, hT, g1, g2, e1])
    | ((first | refine SX.skip ?_ | refine SX.exit ?_ | refine SX.label ?_ | refine SX.ret ?_); try simp only [GA, ↓GB, GX, simprocAttr])
    | (refine hN _ ?_; clear hN N)
    | (refine hK _ _ (Fin.res rfl hown ?_); simp only [GA, ↓GB, GX, simprocAttr, f_a, f_b, f_n, f_c, f_B, f_v, f_g, f_0, f_1, f_2, hT, hwi, g1, g2, e1]; intro w' hbel; refine Done.out ?_)
    | ((first | refine SX.cond rfl (fun hb => ?_) (fun hb => ?_) | (refine bif2.mk (fun hb => ?_) (fun hb => ?_) <;> (try simp only [hb, GA, ↓GB, GX, simprocAttr, hnt, hT, g1, g2, e1]))) <;> ((first | cases hb | (simp only [HBs] at hb) | skip) <;> (first | (exfalso; omega) | skip)))
    | ((first | (refine CallVC.pv hP (rVarint_any (num * 8) (by omega)) rfl ?_) | (refine CallQ.pv hP (rVarint_any (num * 8) (by omega)) rfl ?_) | (refine CallVC.pv hP (rVarint_any n hn) rfl ?_) | (refine CallQ.pv hP (rVarint_any n hn) rfl ?_)); simp only [GA, ↓GB, GX, simprocAttr, hnt, hT, g1, g2, e1])
    | (refine SX.block ?_)
    | (refine and_mk ?_ ?_; (focus first | decide | omega | rfl | assumption | (simp only [LBs]; omega) | (simp; done)))
    | (refine And.intro ?_ ?_))
  all_goals (try refine Done.mk ?_)
  all_goals first | exact hbel | exact ⟨by simp [numB], hbel⟩ | trace_state
theorem rPut_text (num : Nat) (s : List UInt8) (h1 : 1 ≤ num) (h2 : num < 536870912) (hs : s.length < 1152921504606846976) (w : World) :
    Calls Tryd.prog 141 #[.agg #[.int .i64 num, .int .i64 2, .int .u64 0, .string (B s)]] w fun e w' => e = .returned (.tuple #[.string (B (textB num s)), .bool true]) ∧ Below w.heap.size w w' := by
  have g1 : decide ((num : Int) < 1) = false := by simp; omega
  have g2 : decide ((536870912 : Int) ≤ num) = false := by simp; omega
  have hl1 := NW.varint_len10 (n := num * 8 + 2) (by omega)
  have hl2 := NW.varint_len10 (n := s.length) (by omega)
  have e1 : IntKind.u64.wrap (IntKind.u64.wrap (IntKind.u64.wrap (num : Int) * 8) + 2) = ((num * 8 + 2 : Nat) : Int) := by
    rw [wU64 (x := (num : Int)) (by omega) (by omega), wU64 (x := (num : Int) * 8) (by omega) (by omega), wU64 (by omega) (by omega)]; omega
  have e2 : IntKind.u64.wrap (s.length : Int) = (s.length : Int) := wU64 (by omega) (by omega)
  refine calls_pureK (args := [.agg #[.int .i64 num, .int .i64 2, .int .u64 0, .string (B s)]]) w Tryd.func141 rfl Tryd.ntmps141 (by simp) ?_
  intro X K hX hK
  have hnt : X.nt = 83 := by rw [hX]
  have hwi : X.wi = w := by rw [hX]
  have hP : X.P = Tryd.prog := by rw [hX]
  have hown : X.own = [] := by rw [hX]
  have hbl : X.base.length = 0 := by rw [hX]; rfl
  clear hX
  have hT := Ty.T141 hP
  repeat' (first
    | (refine SX.seqK ?_; intro N hN)
    | ((first | (refine SX.ops ?_) | (refine SX.planT (id := 10) [.q [(0, [4]), (1, [1]), (2, [74]), (3, [75]), (4, [76]), (5, [77]), (6, [73, 78]), (7, [1]), (8, [80]), (9, [79, 81]), (10, [82]), (11, [])] none] ?_ ?_ ?_; (focus first | (rw [hP]; kernel_rfl) | (rw [hU1P, hP]; kernel_rfl)); (focus kernel_rfl))); simp only [GA, ↓GB, GX, simprocAttr, hnt, hT, g1, g2, e1, e2])
    | ((first | refine SX.skip ?_ | refine SX.exit ?_ | refine SX.label ?_ | refine SX.ret ?_); try simp only [GA, ↓GB, GX, simprocAttr])
    | (refine hN _ ?_; clear hN N)
    | (refine hK _ _ (Fin.res rfl hown ?_); simp only [GA, ↓GB, GX, simprocAttr, f_a, f_b, f_n, f_c, f_B, f_v, f_g, f_0, f_1, f_2, hT, hwi, g1, g2, e1, e2]; intro w' hbel; refine Done.out ?_)
    | ((first | refine SX.cond rfl (fun hb => ?_) (fun hb => ?_) | (refine bif2.mk (fun hb => ?_) (fun hb => ?_) <;> (try simp only [hb, GA, ↓GB, GX, simprocAttr, hnt, hT, g1, g2, e1, e2]))) <;> ((first | cases hb | (simp only [HBs] at hb) | skip) <;> (first | (exfalso; omega) | skip)))
    | ((first | (refine CallVC.pv hP (rVarint_any (num * 8 + 2) (by omega)) rfl ?_) | (refine CallQ.pv hP (rVarint_any (num * 8 + 2) (by omega)) rfl ?_) | (refine CallVC.pv hP (rVarint_any s.length (by omega)) rfl ?_) | (refine CallQ.pv hP (rVarint_any s.length (by omega)) rfl ?_)); simp only [GA, ↓GB, GX, simprocAttr, hnt, hT, g1, g2, e1, e2])
    | (refine SX.block ?_)
    | (refine and_mk ?_ ?_; (focus first | decide | omega | rfl | assumption | (simp only [LBs]; omega) | (simp; done)))
    | (refine And.intro ?_ ?_))
  all_goals (try refine Done.mk ?_)
  all_goals first | exact hbel | exact ⟨by simp [textB], hbel⟩ | trace_state
theorem rNumber_any (num n : Nat) (h1 : 1 ≤ num) (h2 : num < 536870912) (hn : n < 18446744073709551616) (w : World) :
    Calls Tryd.prog 107 #[.int .i64 num, .int .u64 n] w fun e w' => e = .returned (.string (B (numB num n))) ∧ Below w.heap.size w w' := by
  refine calls_pureK (args := [.int .i64 num, .int .u64 n]) w Tryd.func107 rfl Tryd.ntmps107 (by simp) ?_
  intro X K hX hK
  have hnt : X.nt = 15 := by rw [hX]
  have hwi : X.wi = w := by rw [hX]
  have hP : X.P = Tryd.prog := by rw [hX]
  have hown : X.own = [] := by rw [hX]
  have hbl : X.base.length = 0 := by rw [hX]; rfl
  clear hX
  have hT := Ty.T107 hP
  repeat' (first
    | (refine SX.seqK ?_; intro N hN)
    | ((first | (refine SX.ops ?_)); simp only [GA, ↓GB, GX, simprocAttr, hnt, hT])
    | ((first | refine SX.skip ?_ | refine SX.exit ?_ | refine SX.label ?_ | refine SX.ret ?_); try simp only [GA, ↓GB, GX, simprocAttr])
    | (refine hN _ ?_; clear hN N)
    | (refine hK _ _ (Fin.res rfl hown ?_); simp only [GA, ↓GB, GX, simprocAttr, f_a, f_b, f_n, f_c, f_B, f_v, f_g, f_0, f_1, f_2, hT, hwi]; intro w' hbel; refine Done.out ?_)
    | (refine bif2.mk (fun hb => ?_) (fun hb => ?_) <;> (try simp only [hb, GA, ↓GB, GX, simprocAttr, hnt, hT]) <;> ((first | cases hb | (simp only [HBs] at hb) | skip) <;> (first | (exfalso; omega) | skip)))
    | ((first | (refine CallVC.pt (l := [_, _]) hP (rPut_num num n h1 h2 hn) rfl ?_) | (refine CallQ.pt (l := [_, _]) hP (rPut_num num n h1 h2 hn) rfl ?_)); simp only [GA, ↓GB, GX, simprocAttr, hnt, hT])
    | (refine and_mk ?_ ?_; (focus first | decide | omega | rfl | assumption | (simp only [LBs]; omega) | (simp; done)))
    | (refine And.intro ?_ ?_))
  all_goals (try refine Done.mk ?_)
  all_goals first | exact hbel | exact ⟨rfl, hbel⟩
theorem rText_any (num : Nat) (s : List UInt8) (h1 : 1 ≤ num) (h2 : num < 536870912) (hs : s.length < 1152921504606846976) (w : World) :
    Calls Tryd.prog 108 #[.int .i64 num, .string (B s)] w fun e w' => e = .returned (.string (B (textB num s))) ∧ Below w.heap.size w w' := by
  refine calls_pureK (args := [.int .i64 num, .string (B s)]) w Tryd.func108 rfl Tryd.ntmps108 (by simp) ?_
  intro X K hX hK
  have hnt : X.nt = 15 := by rw [hX]
  have hwi : X.wi = w := by rw [hX]
  have hP : X.P = Tryd.prog := by rw [hX]
  have hown : X.own = [] := by rw [hX]
  have hbl : X.base.length = 0 := by rw [hX]; rfl
  clear hX
  have hT := Ty.T108 hP
  repeat' (first
    | (refine SX.seqK ?_; intro N hN)
    | ((first | (refine SX.ops ?_)); simp only [GA, ↓GB, GX, simprocAttr, hnt, hT])
    | ((first | refine SX.skip ?_ | refine SX.exit ?_ | refine SX.label ?_ | refine SX.ret ?_); try simp only [GA, ↓GB, GX, simprocAttr])
    | (refine hN _ ?_; clear hN N)
    | (refine hK _ _ (Fin.res rfl hown ?_); simp only [GA, ↓GB, GX, simprocAttr, f_a, f_b, f_n, f_c, f_B, f_v, f_g, f_0, f_1, f_2, hT, hwi]; intro w' hbel; refine Done.out ?_)
    | (refine bif2.mk (fun hb => ?_) (fun hb => ?_) <;> (try simp only [hb, GA, ↓GB, GX, simprocAttr, hnt, hT]) <;> ((first | cases hb | (simp only [HBs] at hb) | skip) <;> (first | (exfalso; omega) | skip)))
    | ((first | (refine CallVC.pt (l := [_, _]) hP (rPut_text num s h1 h2 hs) rfl ?_) | (refine CallQ.pt (l := [_, _]) hP (rPut_text num s h1 h2 hs) rfl ?_)); simp only [GA, ↓GB, GX, simprocAttr, hnt, hT])
    | (refine and_mk ?_ ?_; (focus first | decide | omega | rfl | assumption | (simp only [LBs]; omega) | (simp; done)))
    | (refine And.intro ?_ ?_))
  all_goals (try refine Done.mk ?_)
  all_goals first | exact hbel | exact ⟨rfl, hbel⟩
end Go.Proofs.YtbdacbcpniegiaaDoor
namespace Go.Proofs.YtbdacbcpniegiaaDoor.Q
open Go Go.RowKit Go.Proofs Go.Sx
theorem orS (acc k x : Nat) (hk : k ≤ 9) (hacc : acc < 2 ^ (7 * k)) (hx : k = 9 → x ≤ 1) :
    bits .or .u64 (acc : Int) (IntKind.u64.wrap (((x % 128 : Nat) : Int) * 2 ^ min (IntKind.i64.wrap (7 * (k : Int))).toNat IntKind.u64.bits)) = ((acc + x % 128 * 2 ^ (7 * k) : Nat) : Int) := by
  have hb : x % 128 * 2 ^ (7 * k) < 18446744073709551616 := by
    by_cases h9 : k = 9
    · subst h9
      have h1 := hx rfl
      have h2 : x % 128 * 2 ^ (7 * 9) ≤ 1 * 2 ^ (7 * 9) := Nat.mul_le_mul_right _ (by omega)
      omega
    · have hp : 2 ^ (7 * k) ≤ 2 ^ 56 := Nat.pow_le_pow_right (by decide) (by omega)
      have h2 : x % 128 * 2 ^ (7 * k) ≤ 127 * 2 ^ 56 := Nat.mul_le_mul (by omega) hp
      omega
  have h := orShift acc k (x % 128) hk hacc hb (by omega)
  rw [show IntKind.u64.wrap (((x % 128 : Nat)) : Int) = ((x % 128 : Nat) : Int) from wU64 (by omega) (by omega)] at h
  exact h
theorem rv_unf {s : List UInt8} {k : Nat} (hk : k < s.length) (h10 : k ≤ 9) : NW.readAt k (s.drop k) =
    if k = 9 ∧ (s.getD k 0).toNat > 1 then none else if (s.getD k 0).toNat < 128 then some ((s.getD k 0).toNat * 2 ^ (7 * k), k + 1) else (NW.readAt (k + 1) (s.drop (k + 1))).map fun r => ((s.getD k 0).toNat % 128 * 2 ^ (7 * k) + r.1, r.2) := by
  have hdrop : s.drop k = s[k]'hk :: s.drop (k + 1) := List.drop_eq_getElem_cons hk
  have hget : s.getD k 0 = s[k]'hk := by simp [List.getD_eq_getElem?_getD, hk]
  rw [hdrop, NW.readAt, if_neg (by omega), hget]
theorem rv_stop {s : List UInt8} {k : Nat} (h : 10 ≤ k ∨ s.length ≤ k) : NW.readAt k (s.drop k) = none := by
  by_cases hk : s.length ≤ k
  · rw [List.drop_of_length_le hk]; rfl
  · rw [List.drop_eq_getElem_cons (by omega), NW.readAt, if_pos (by omega)]
theorem rReadVarint_any (s : List UInt8) (hs : s.length ≤ 4611686018427387904) (w : World) :
    Calls Tryd.prog 144 #[.string (B s)] w fun e w' => e = .returned (.tuple #[.int .u64 (rvR s).1, .int .i64 (rvR s).2.1, .bool (rvR s).2.2]) ∧ Below w.heap.size w w' := by
  have hx : ∀ k, IntKind.u64.wrap (((s.getD k 0).toNat : Nat) : Int) = ((s.getD k 0).toNat : Nat) := fun k => by have := (s.getD k 0).toNat_lt; exact wU64 (by omega) (by omega)
  have hm : ∀ k, ((((s.getD k 0).toNat : Nat) : Int).tmod 128) = (((s.getD k 0).toNat % 128 : Nat) : Int) := fun k => rfl
  refine calls_pureK (args := [.string (B s)]) w Tryd.func144 rfl Tryd.ntmps144 (by simp) ?_
  intro X K hX hK
  have hnt : X.nt = 40 := by rw [hX]
  have hwi : X.wi = w := by rw [hX]
  have hP : X.P = Tryd.prog := by rw [hX]
  have hown : X.own = [] := by rw [hX]
  have hbl : X.base.length = 0 := by rw [hX]; rfl
  clear hX
  have hT := Ty.T144 hP
  repeat' (first
    | (refine SX.seqK ?_; intro N hN)
    | ((first | (refine SX.ops ?_)); simp only [GA, ↓GB, GX, simprocAttr, hnt, hT, hx, hm])
    | ((first | refine SX.skip ?_ | refine SX.exit ?_ | refine SX.label ?_ | refine SX.ret ?_); try simp only [GA, ↓GB, GX, simprocAttr])
    | (refine hN _ ?_; clear hN N)
    | (refine hK _ _ (Fin.res rfl hown ?_); simp only [GA, ↓GB, GX, simprocAttr, f_a, f_b, f_n, f_c, f_B, f_v, f_g, f_0, f_1, f_2, hT, hwi, hx, hm]; intro w' hbel; refine Done.out ?_)
    | (clear hN N; first | (refine hN _ ?_; clear hN N) | (clear hN N; refine hN _ ?_; clear hN N))
    | ((first | refine SX.cond rfl (fun hb => ?_) (fun hb => ?_) | (refine bif2.mk (fun hb => ?_) (fun hb => ?_) <;> (try simp only [hb, GA, ↓GB, GX, simprocAttr, hnt, hT, hx, hm]))) <;> ((first | cases hb | (simp only [HBs] at hb) | skip) <;> (first | (exfalso; omega) | skip)))
    | (refine SX.loop (ι := { p : Nat × Nat // p.1 ≤ s.length ∧ p.1 ≤ 10 ∧ p.2 < 2 ^ (7 * p.1) ∧ NW.readVar s = (NW.readAt p.1 (s.drop p.1)).map (fun r => (p.2 + r.1, r.2)) }) (fun i => ⟨[(0, vv (.string (B s))), (5, vv (.int .u64 i.1.2)), (6, vv (.int .i64 i.1.1))], []⟩) (fun i => 10 - i.1.1) ⟨(0, 0), Nat.zero_le _, by omega, by decide, by cases h : NW.readAt 0 s <;> simp [NW.readVar, h]⟩ ⟨[], by (refine LeR.of ?_ ?_ ?_ ?_ ?_ ?_ ?_ <;> first | (rw [hbl]; decide) | decide | (simp only [GA, ↓GB, GX, simprocAttr, GDs]; done) | (simp only [GA, ↓GB, GX, simprocAttr, GDs]; first | exact ⟨rfl, rfl⟩ | rfl; done))⟩ ?_ <;> rintro ⟨⟨k, acc⟩, hk, hk10, hacc, hrv⟩ <;> simp only [] at hk hk10 hacc hrv ⊢)
    | (refine SX.block ?_)
    | (refine and_mk ?_ ?_; (focus first | decide | omega | rfl | assumption | (simp only [LBs]; omega) | (simp; done)))
    | (refine And.intro ?_ ?_))
  all_goals (try refine Done.mk ?_)
  · have hlt : k < s.length := by omega
    rw [rv_unf hlt (by omega), if_pos (by omega)] at hrv
    rw [rvR_none hrv]
    exact ⟨rfl, hbel⟩
  · rw [wI64 (by omega) (by omega)]; omega
  · have hlt : k < s.length := by omega
    rw [orS acc k _ (by omega) hacc (by omega), wI64 (by omega) (by omega)]
    rw [rv_unf hlt (by omega), if_neg (by omega), if_pos (by omega)] at hrv
    rw [rvR_some hrv]
    refine ⟨?_, hbel⟩
    rw [Nat.mod_eq_of_lt (show (s.getD k 0).toNat < 128 by omega)]
    rfl
  · rw [wI64 (by omega) (by omega)]; omega
  · have hlt : k < s.length := by omega
    rw [orS acc k _ (by omega) hacc (by omega), wI64 (by omega) (by omega)]
    rw [rv_unf hlt (by omega), if_neg (by omega), if_pos (by omega)] at hrv
    rw [rvR_some hrv]
    refine ⟨?_, hbel⟩
    rw [Nat.mod_eq_of_lt (show (s.getD k 0).toNat < 128 by omega)]
    rfl
  · have hlt : k < s.length := by omega
    rw [rv_unf hlt (by omega), if_neg (by omega), if_neg (by omega), Option.map_map] at hrv
    have hp : 2 ^ (7 * (k + 1)) = 128 * 2 ^ (7 * k) := by rw [show 7 * (k + 1) = 7 + 7 * k by omega, Nat.pow_add]
    have hm2 : (s.getD k 0).toNat % 128 * 2 ^ (7 * k) ≤ 127 * 2 ^ (7 * k) := Nat.mul_le_mul_right _ (by omega)
    refine ⟨⟨(k + 1, acc + (s.getD k 0).toNat % 128 * 2 ^ (7 * k)), by omega, by show k + 1 ≤ 10; omega, by show acc + _ < 2 ^ (7 * (k + 1)); omega, ?_⟩, [], by (refine LeR.of ?_ ?_ ?_ ?_ ?_ ?_ ?_ <;> first | (rw [hbl]; decide) | decide | (simp only [GA, ↓GB, GX, simprocAttr, GDs]; done) | (simp only [GA, ↓GB, GX, simprocAttr, GDs]; first | (rw [orS acc k _ (by omega) hacc (by omega), wI64 (by omega) (by omega)]; exact ⟨rfl, rfl⟩) | (rw [orS acc k _ (by omega) hacc (by omega), wI64 (by omega) (by omega)]; rfl); done)), by show 10 - (k + 1) < 10 - k; omega⟩
    rw [hrv]
    congr 1
    funext r
    simp only [Function.comp]
    rw [Nat.add_assoc]
  · rw [rv_stop (.inl (by omega))] at hrv
    rw [rvR_none hrv]
    exact ⟨rfl, hbel⟩
  · rw [rv_stop (.inr (by omega))] at hrv
    rw [rvR_none hrv]
    exact ⟨rfl, hbel⟩
@[reducible] def rfrow (l : List NW.Fld) : LO := .row 179 4 l.length (flds l)
def rparsedO : Option (List NW.Fld) → List LO
  | some l => [rfrow l]
  | none => []
def rparsedV : Option (List NW.Fld) → SV
  | some l => .tup [.c (.row 0), .c (.v (.bool true))]
  | none => .tup [.c (.v (.slice none 0 0)), .c (.v (.bool false))]
theorem rv_z (l : List UInt8) : (rvR l).2.1 ≤ l.length := by
  unfold rvR
  cases h : NW.readVar l with
  | none => exact Nat.zero_le _
  | some r => exact (NW.readVar_bd h).2.1
theorem rv_lt (l : List UInt8) : (rvR l).1 < 18446744073709551616 := by
  unfold rvR
  cases h : NW.readVar l with
  | none => show 0 < _; decide
  | some r => have := NW.readVar_lt h; show r.1 < _; omega
theorem rvR_t {t : List UInt8} {n z : Nat} (h : rvR t = (n, z, true)) : NW.readVar t = some (n, z) := by
  unfold rvR at h
  cases e : NW.readVar t with
  | none => rw [e] at h; simp at h
  | some r => rw [e] at h; obtain ⟨a, b⟩ := r; simp at h; rw [h.1, h.2]
theorem rvR_f {t : List UInt8} {n z : Nat} (h : rvR t = (n, z, false)) : NW.readVar t = none := by
  unfold rvR at h
  cases e : NW.readVar t with
  | none => rfl
  | some r => rw [e] at h; obtain ⟨a, b⟩ := r; simp at h
theorem rvT {t : List UInt8} {n z : Nat} {ok o : Bool} (h : rvR t = (n, z, ok)) (e : ok = o) : rvR t = (n, z, o) := by rw [h, e]
theorem tF_none {t : List UInt8} (h : NW.readVar t = none) : NW.takeF t = none := by unfold NW.takeF; rw [h]
theorem tF_tag {t : List UInt8} {n z : Nat} (h : NW.readVar t = some (n, z)) (hn : n < 8 ∨ 2 ^ 32 ≤ n) : NW.takeF t = none := by unfold NW.takeF; rw [h]; exact if_pos hn
theorem tF_body {t : List UInt8} {n z : Nat} (h : NW.readVar t = some (n, z)) (hn : ¬ (n < 8 ∨ 2 ^ 32 ≤ n)) (hb : NW.body (n % 8) (t.drop z) = none) : NW.takeF t = none := by
  unfold NW.takeF; rw [h]
  simp only [if_neg hn, hb]
theorem tF_short {t : List UInt8} {n z m size : Nat} {r : List UInt8} (h : NW.readVar t = some (n, z)) (hn : ¬ (n < 8 ∨ 2 ^ 32 ≤ n)) (hb : NW.body (n % 8) (t.drop z) = some (m, size, r)) (hs : ¬ size ≤ r.length) : NW.takeF t = none := by
  unfold NW.takeF; rw [h]
  simp only [if_neg hn, hb, if_neg hs]
theorem tF_some {t : List UInt8} {n z m size : Nat} {r : List UInt8} (h : NW.readVar t = some (n, z)) (hn : ¬ (n < 8 ∨ 2 ^ 32 ≤ n)) (hb : NW.body (n % 8) (t.drop z) = some (m, size, r)) (hs : size ≤ r.length) : NW.takeF t = some (⟨n / 8, n % 8, m, r.take size⟩, r.drop size) := by
  unfold NW.takeF; rw [h]
  simp only [if_neg hn, hb, if_pos hs]
theorem bd0 {k : Nat} {s : List UInt8} {n z : Nat} (hk : k = 0) (h : NW.readVar s = some (n, z)) : NW.body k s = some (n, 0, s.drop z) := by unfold NW.body; rw [if_pos hk, h]; rfl
theorem bd0n {k : Nat} {s : List UInt8} (hk : k = 0) (h : NW.readVar s = none) : NW.body k s = none := by unfold NW.body; rw [if_pos hk, h]; rfl
theorem bd1 {k : Nat} {s : List UInt8} (hk : k = 1) : NW.body k s = some (0, 8, s) := by unfold NW.body; rw [if_neg (by omega), if_pos hk]
theorem bd2 {k : Nat} {s : List UInt8} {n z : Nat} (hk : k = 2) (h : NW.readVar s = some (n, z)) : NW.body k s = some (0, n, s.drop z) := by unfold NW.body; rw [if_neg (by omega), if_neg (by omega), if_pos hk, h]; rfl
theorem bd2n {k : Nat} {s : List UInt8} (hk : k = 2) (h : NW.readVar s = none) : NW.body k s = none := by unfold NW.body; rw [if_neg (by omega), if_neg (by omega), if_pos hk, h]; rfl
theorem bd5 {k : Nat} {s : List UInt8} (hk : k = 5) : NW.body k s = some (0, 4, s) := by unfold NW.body; rw [if_neg (by omega), if_neg (by omega), if_neg (by omega), if_pos hk]
theorem bdn {k : Nat} {s : List UInt8} (h0 : k ≠ 0) (h1 : k ≠ 1) (h2 : k ≠ 2) (h5 : k ≠ 5) : NW.body k s = none := by unfold NW.body; rw [if_neg h0, if_neg h1, if_neg h2, if_neg h5]
theorem rfrow_snoc (fs : List NW.Fld) (f : NW.Fld) : LO.row 179 4 (fs.length + 1) (flds fs ++ [.int .i64 f.num, .int .i64 f.kind, .int .u64 f.n, .string (B f.s)]) = rfrow (fs ++ [f]) := by
  simp only [rfrow, List.length_append, List.length_cons, List.length_nil, flds_append]; rfl
theorem par_none {s t : List UInt8} {fs : List NW.Fld} (hp : NW.parse s = (NW.parse t).map (fs ++ ·)) (h0 : 0 < t.length) (h : NW.takeF t = none) : NW.parse s = none := by
  rw [hp, NW.parse_none (by intro e; subst e; simp at h0) h]; rfl
theorem par_some {s t r : List UInt8} {fs : List NW.Fld} {f : NW.Fld} (hp : NW.parse s = (NW.parse t).map (fs ++ ·)) (h : NW.takeF t = some (f, r)) : NW.parse s = (NW.parse r).map ((fs ++ [f]) ++ ·) := by
  rw [hp, NW.parse_some h, Option.map_map]
  congr 1
  funext l
  simp
theorem rvC (l : List UInt8) (hl : l.length ≤ 4611686018427387904) : ∃ n z ok, rvR l = (n, z, ok) ∧ z ≤ l.length ∧ n < 18446744073709551616 ∧ ∀ w, Calls Tryd.prog 144 #[.string (B l)] w fun e w' => e = .returned (.tuple #[.int .u64 n, .int .i64 z, .bool ok]) ∧ Below w.heap.size w w' :=
  ⟨(rvR l).1, (rvR l).2.1, (rvR l).2.2, rfl, rv_z l, rv_lt l, rReadVarint_any l hl⟩
theorem rParse_ctr (s : List UInt8) (hs : s.length ≤ 1099511627776) : Ctr Tryd.prog [] 110 [] [vv (.string (B s))] (fun os v => os = rparsedO (NW.parse s) ∧ v = rparsedV (NW.parse s)) := by
  have f1 : ∀ n : Nat, (n : Int).tdiv 8 = ((n / 8 : Nat) : Int) := fun l => rfl
  have f2 : ∀ n : Nat, (n : Int).tmod 8 = ((n % 8 : Nat) : Int) := fun l => rfl
  have f6 : ∀ (l : List UInt8) z, List.take (l.length - z) (List.drop z l) = List.drop z l := fun l z => List.take_of_length_le (by simp)
  have f8 : ∀ (l : List UInt8) z w, List.take (l.length - z - w) (List.drop w (List.drop z l)) = List.drop w (List.drop z l) := fun l z w => List.take_of_length_le (by simp <;> omega)
  refine Ctr.less ?_
  intro X0 hP0 hG0 N0 hN0
  refine CallVC.inline (f := 110) (by rw [hP0]; exact Tryd.func110) rfl Tryd.ntmps110 rfl (by simp) ?_
  intro X K hU hnt hbl hK
  have hP : X.P = Tryd.prog := hU.P.trans hP0
  have hG := hG0.under hU
  have hT := Ty.T110 hP
  simp only [GA, ↓GB, GX, simprocAttr] at hbl ⊢
  have f3 := True.intro
  have f4 := True.intro
  have f5 := True.intro
  have f7 := True.intro
  have f9 := True.intro
  repeat' (first
    | (refine SX.asRow (t := 4) 179 4 rfl ⟨_, rfl⟩ ?_)
    | (refine SX.seqK ?_; intro N hN)
    | ((first | (refine SX.ops ?_)); simp only [GA, ↓GB, GX, simprocAttr, hnt, hT, f1, f2, f3, f4, f5, f6, f7, f8, f9, Int.toNat_natCast])
    | ((first | refine SX.skip ?_ | refine SX.exit ?_ | refine SX.label ?_ | refine SX.ret ?_); try simp only [GA, ↓GB, GX, simprocAttr])
    | (refine hN _ ?_; clear hN N)
    | ((first | refine hK _ _ (FinI.ret3 ?_) | refine hK _ _ (FinI.nrm3 ?_)); simp only [GA, ↓GB, GX, simprocAttr, finP_s, hnt, hT, f1, f2, f3, f4, f5, f6, f7, f8, f9, Int.toNat_natCast]; refine Done.out ?_)
    | (clear hN N; first | (refine hN _ ?_; clear hN N) | (clear hN N; refine hN _ ?_; clear hN N))
    | ((first | refine SX.cond rfl (fun hb => ?_) (fun hb => ?_) | (refine bif2.mk (fun hb => ?_) (fun hb => ?_) <;> (try simp only [hb, GA, ↓GB, GX, simprocAttr, hnt, hT, f1, f2, f3, f4, f5, f6, f7, f8, f9, Int.toNat_natCast]))) <;> ((first | cases hb | (simp only [HBs] at hb) | skip) <;> (first | (exfalso; omega) | skip)))
    | (refine CallVC.pt (l := [_, _, _]) hP hc1 rfl ?_; simp only [GA, ↓GB, GX, simprocAttr, hnt, hT, f1, f2, f3, f4, f5, f6, f7, f8, f9, Int.toNat_natCast])
    | (refine CallVC.pt (l := [_, _, _]) hP hc2 rfl ?_; simp only [GA, ↓GB, GX, simprocAttr, hnt, hT, f1, f2, f3, f4, f5, f6, f7, f8, f9, Int.toNat_natCast])
    | (refine SX.loop (ι := { p : List UInt8 × List NW.Fld // p.2.length + p.1.length ≤ s.length ∧ NW.parse s = (NW.parse p.1).map (p.2 ++ ·) }) (fun p => ⟨[(0, vv (.string (B p.1.1))), (4, .one (.c (.row 0)))], [rfrow p.1.2]⟩) (fun p => p.1.1.length) ⟨(s, []), by simp, by simp⟩ ⟨[0], by (refine LeR.of ?_ ?_ ?_ ?_ ?_ ?_ ?_ <;> first | (rw [hbl]; decide) | decide | (simp only [GA, ↓GB, GX, simprocAttr, GDs]; done) | (simp only [GA, ↓GB, GX, simprocAttr, GDs]; rfl; done))⟩ ?_ <;> rintro ⟨⟨t, fs⟩, hl, hp⟩ <;> simp only [] at hl hp ⊢ <;> obtain ⟨tag, z, ok, hr1, hz1, ht1, hc1⟩ := rvC t (by omega) <;> obtain ⟨n2, z2, ok2, hr2, hz2, ht2, hc2⟩ := rvC (t.drop z) (by rw [List.length_drop] <;> omega) <;> have hdl : (List.drop z t).length = t.length - z := List.length_drop <;> have hdl2 : (List.drop z2 (List.drop z t)).length = (List.drop z t).length - z2 := List.length_drop <;> have f7 : IntKind.u64.wrap ((List.drop z t).length : Int) = (List.drop z t).length := wU64 (by omega) (by omega) <;> have f9 : IntKind.u64.wrap ((List.drop z2 (List.drop z t)).length : Int) = (List.drop z2 (List.drop z t)).length := wU64 (by omega) (by omega) <;> have f3 : IntKind.u64.wrap ((tag / 8 : Nat) : Int) = ((tag / 8 : Nat) : Int) := wU64 (by omega) (by omega) <;> have f4 : IntKind.i64.wrap ((tag / 8 : Nat) : Int) = ((tag / 8 : Nat) : Int) := wI64 (by omega) (by omega) <;> have f5 : IntKind.i64.wrap ((tag % 8 : Nat) : Int) = ((tag % 8 : Nat) : Int) := wI64 (by omega) (by omega))
    | (refine SX.block ?_)
    | (refine and_mk ?_ ?_; (focus first | decide | omega | rfl | assumption | (simp only [LBs]; omega) | (simp; done)))
    | (refine And.intro ?_ ?_))
  all_goals (try refine Done.mk ?_)
  · have hn0 : NW.takeF t = none := tF_none (rvR_f (by rw [hr1, hb]))
    rw [par_none hp (by omega) hn0] at hN0
    simp only [rparsedO, rparsedV] at hN0
    (refine hN0 _ _ ⟨[], _, _, ?_, ?_, ?_, ⟨rfl, rfl⟩⟩; (focus exact LeR.of rfl trivial (by simp only [GA, ↓GB, GX, simprocAttr, GDs]) (by decide) rfl rfl rfl); rotate_left; (focus rfl))
    rfl
  · have hn0 : NW.takeF t = none := tF_tag (rvR_t (rvT hr1 (by first | assumption | rfl))) (by omega)
    rw [par_none hp (by omega) hn0] at hN0
    simp only [rparsedO, rparsedV] at hN0
    (refine hN0 _ _ ⟨[], _, _, ?_, ?_, ?_, ⟨rfl, rfl⟩⟩; (focus exact LeR.of rfl trivial (by simp only [GA, ↓GB, GX, simprocAttr, GDs]) (by decide) rfl rfl rfl); rotate_left; (focus rfl))
    rfl
  · have hn0 : NW.takeF t = none := tF_tag (rvR_t (rvT hr1 (by first | assumption | rfl))) (by omega)
    rw [par_none hp (by omega) hn0] at hN0
    simp only [rparsedO, rparsedV] at hN0
    (refine hN0 _ _ ⟨[], _, _, ?_, ?_, ?_, ⟨rfl, rfl⟩⟩; (focus exact LeR.of rfl trivial (by simp only [GA, ↓GB, GX, simprocAttr, GDs]) (by decide) rfl rfl rfl); rotate_left; (focus rfl))
    rfl
  · have hn0 : NW.takeF t = none := tF_body (rvR_t (rvT hr1 (by first | assumption | rfl))) (by omega) (bd0n (by omega) (rvR_f (rvT hr2 (by first | assumption | rfl))))
    rw [par_none hp (by omega) hn0] at hN0
    simp only [rparsedO, rparsedV] at hN0
    (refine hN0 _ _ ⟨[], _, _, ?_, ?_, ?_, ⟨rfl, rfl⟩⟩; (focus exact LeR.of rfl trivial (by simp only [GA, ↓GB, GX, simprocAttr, GDs]) (by decide) rfl rfl rfl); rotate_left; (focus rfl))
    rfl
  · have hn0 : NW.takeF t = some (⟨tag / 8, tag % 8, n2, []⟩, List.drop z2 (List.drop z t)) := tF_some (size := 0) (r := List.drop z2 (List.drop z t)) (rvR_t (rvT hr1 (by first | assumption | rfl))) (by omega) (bd0 (by omega) (rvR_t (rvT hr2 (by first | assumption | rfl)))) (by omega)
    have e := rfrow_snoc fs ⟨tag / 8, tag % 8, n2, []⟩
    have hz0 : 1 ≤ z := (NW.readVar_bd (rvR_t (rvT hr1 (by first | assumption | rfl)))).1
    have hR : List.take ((List.drop z2 (List.drop z t)).length - 0) (List.drop z2 (List.drop z t)) = List.drop z2 (List.drop z t) := by rw [Nat.sub_zero, List.take_length]
    have hRl := congrArg List.length hR
    exact ⟨⟨(List.take ((List.drop z2 (List.drop z t)).length - 0) (List.drop z2 (List.drop z t)), fs ++ [⟨tag / 8, tag % 8, n2, []⟩]), by rw [List.length_append, List.length_singleton]; show fs.length + 1 + (List.take ((List.drop z2 (List.drop z t)).length - 0) (List.drop z2 (List.drop z t))).length ≤ s.length; omega, by show NW.parse s = (NW.parse (List.take ((List.drop z2 (List.drop z t)).length - 0) (List.drop z2 (List.drop z t)))).map ((fs ++ _) ++ ·); rw [hR]; rw [par_some hp hn0]⟩, [3], by (refine LeR.of ?_ ?_ ?_ ?_ ?_ ?_ ?_ <;> first | (rw [hbl]; decide) | decide | (simp only [GA, ↓GB, GX, simprocAttr, GDs]; done) | (simp only [GA, ↓GB, GX, simprocAttr, GDs]; first | exact e | exact ⟨rfl, e⟩ | exact ⟨e, rfl⟩ | rfl; done)), by show (List.take ((List.drop z2 (List.drop z t)).length - 0) (List.drop z2 (List.drop z t))).length < t.length; omega⟩
  · have hn0 : NW.takeF t = none := tF_short (rvR_t (rvT hr1 (by first | assumption | rfl))) (by omega) (bd1 (by omega)) (by omega)
    rw [par_none hp (by omega) hn0] at hN0
    simp only [rparsedO, rparsedV] at hN0
    (refine hN0 _ _ ⟨[], _, _, ?_, ?_, ?_, ⟨rfl, rfl⟩⟩; (focus exact LeR.of rfl trivial (by simp only [GA, ↓GB, GX, simprocAttr, GDs]) (by decide) rfl rfl rfl); rotate_left; (focus rfl))
    rfl
  · have hn0 : NW.takeF t = some (⟨tag / 8, tag % 8, 0, List.take 8 (List.drop z t)⟩, List.drop 8 (List.drop z t)) := tF_some (size := 8) (r := List.drop z t) (rvR_t (rvT hr1 (by first | assumption | rfl))) (by omega) (bd1 (by omega)) (by omega)
    have e := rfrow_snoc fs ⟨tag / 8, tag % 8, 0, List.take 8 (List.drop z t)⟩
    have hRl : (List.drop 8 (List.drop z t)).length = (List.drop z t).length - 8 := List.length_drop
    exact ⟨⟨(List.drop 8 (List.drop z t), fs ++ [⟨tag / 8, tag % 8, 0, List.take 8 (List.drop z t)⟩]), by rw [List.length_append, List.length_singleton]; show fs.length + 1 + (List.drop 8 (List.drop z t)).length ≤ s.length; omega, by rw [par_some hp hn0]⟩, [3], by (refine LeR.of ?_ ?_ ?_ ?_ ?_ ?_ ?_ <;> first | (rw [hbl]; decide) | decide | (simp only [GA, ↓GB, GX, simprocAttr, GDs]; done) | (simp only [GA, ↓GB, GX, simprocAttr, GDs]; first | exact e | exact ⟨rfl, e⟩ | exact ⟨e, rfl⟩ | rfl; done)), by show (List.drop 8 (List.drop z t)).length < t.length; omega⟩
  · have hn0 : NW.takeF t = none := tF_body (rvR_t (rvT hr1 (by first | assumption | rfl))) (by omega) (bd2n (by omega) (rvR_f (rvT hr2 (by first | assumption | rfl))))
    rw [par_none hp (by omega) hn0] at hN0
    simp only [rparsedO, rparsedV] at hN0
    (refine hN0 _ _ ⟨[], _, _, ?_, ?_, ?_, ⟨rfl, rfl⟩⟩; (focus exact LeR.of rfl trivial (by simp only [GA, ↓GB, GX, simprocAttr, GDs]) (by decide) rfl rfl rfl); rotate_left; (focus rfl))
    rfl
  · have hn0 : NW.takeF t = none := tF_short (rvR_t (rvT hr1 (by first | assumption | rfl))) (by omega) (bd2 (by omega) (rvR_t (rvT hr2 (by first | assumption | rfl)))) (by omega)
    rw [par_none hp (by omega) hn0] at hN0
    simp only [rparsedO, rparsedV] at hN0
    (refine hN0 _ _ ⟨[], _, _, ?_, ?_, ?_, ⟨rfl, rfl⟩⟩; (focus exact LeR.of rfl trivial (by simp only [GA, ↓GB, GX, simprocAttr, GDs]) (by decide) rfl rfl rfl); rotate_left; (focus rfl))
    rfl
  · have hn0 : NW.takeF t = some (⟨tag / 8, tag % 8, 0, List.take (n2 - 0) (List.drop z2 (List.drop z t))⟩, List.drop n2 (List.drop z2 (List.drop z t))) := tF_some (size := n2) (r := List.drop z2 (List.drop z t)) (rvR_t (rvT hr1 (by first | assumption | rfl))) (by omega) (bd2 (by omega) (rvR_t (rvT hr2 (by first | assumption | rfl)))) (by omega)
    have e := rfrow_snoc fs ⟨tag / 8, tag % 8, 0, List.take (n2 - 0) (List.drop z2 (List.drop z t))⟩
    have hz0 : 1 ≤ z := (NW.readVar_bd (rvR_t (rvT hr1 (by first | assumption | rfl)))).1
    have hRl : (List.drop n2 (List.drop z2 (List.drop z t))).length = (List.drop z2 (List.drop z t)).length - n2 := List.length_drop
    exact ⟨⟨(List.drop n2 (List.drop z2 (List.drop z t)), fs ++ [⟨tag / 8, tag % 8, 0, List.take (n2 - 0) (List.drop z2 (List.drop z t))⟩]), by rw [List.length_append, List.length_singleton]; show fs.length + 1 + (List.drop n2 (List.drop z2 (List.drop z t))).length ≤ s.length; omega, by rw [par_some hp hn0]⟩, [3], by (refine LeR.of ?_ ?_ ?_ ?_ ?_ ?_ ?_ <;> first | (rw [hbl]; decide) | decide | (simp only [GA, ↓GB, GX, simprocAttr, GDs]; done) | (simp only [GA, ↓GB, GX, simprocAttr, GDs]; first | exact e | exact ⟨rfl, e⟩ | exact ⟨e, rfl⟩ | rfl; done)), by show (List.drop n2 (List.drop z2 (List.drop z t))).length < t.length; omega⟩
  · have hn0 : NW.takeF t = none := tF_short (rvR_t (rvT hr1 (by first | assumption | rfl))) (by omega) (bd5 (by omega)) (by omega)
    rw [par_none hp (by omega) hn0] at hN0
    simp only [rparsedO, rparsedV] at hN0
    (refine hN0 _ _ ⟨[], _, _, ?_, ?_, ?_, ⟨rfl, rfl⟩⟩; (focus exact LeR.of rfl trivial (by simp only [GA, ↓GB, GX, simprocAttr, GDs]) (by decide) rfl rfl rfl); rotate_left; (focus rfl))
    rfl
  · have hn0 : NW.takeF t = some (⟨tag / 8, tag % 8, 0, List.take 4 (List.drop z t)⟩, List.drop 4 (List.drop z t)) := tF_some (size := 4) (r := List.drop z t) (rvR_t (rvT hr1 (by first | assumption | rfl))) (by omega) (bd5 (by omega)) (by omega)
    have e := rfrow_snoc fs ⟨tag / 8, tag % 8, 0, List.take 4 (List.drop z t)⟩
    have hRl : (List.drop 4 (List.drop z t)).length = (List.drop z t).length - 4 := List.length_drop
    exact ⟨⟨(List.drop 4 (List.drop z t), fs ++ [⟨tag / 8, tag % 8, 0, List.take 4 (List.drop z t)⟩]), by rw [List.length_append, List.length_singleton]; show fs.length + 1 + (List.drop 4 (List.drop z t)).length ≤ s.length; omega, by rw [par_some hp hn0]⟩, [3], by (refine LeR.of ?_ ?_ ?_ ?_ ?_ ?_ ?_ <;> first | (rw [hbl]; decide) | decide | (simp only [GA, ↓GB, GX, simprocAttr, GDs]; done) | (simp only [GA, ↓GB, GX, simprocAttr, GDs]; first | exact e | exact ⟨rfl, e⟩ | exact ⟨e, rfl⟩ | rfl; done)), by show (List.drop 4 (List.drop z t)).length < t.length; omega⟩
  · have hn0 : NW.takeF t = none := tF_body (rvR_t (rvT hr1 (by first | assumption | rfl))) (by omega) (bdn (by omega) (by omega) (by omega) (by omega))
    rw [par_none hp (by omega) hn0] at hN0
    simp only [rparsedO, rparsedV] at hN0
    (refine hN0 _ _ ⟨[], _, _, ?_, ?_, ?_, ⟨rfl, rfl⟩⟩; (focus exact LeR.of rfl trivial (by simp only [GA, ↓GB, GX, simprocAttr, GDs]) (by decide) rfl rfl rfl); rotate_left; (focus rfl))
    rfl
  · have ht : t = [] := List.eq_nil_of_length_eq_zero (by omega)
    subst ht
    rw [hp, NW.parse_nil, Option.map_some, List.append_nil] at hN0
    simp only [rparsedO, rparsedV] at hN0
    (refine hN0 _ _ ⟨[0], _, _, ?_, ?_, ?_, ⟨rfl, rfl⟩⟩; (focus exact LeR.of rfl trivial (by simp only [GA, ↓GB, GX, simprocAttr, GDs]) (by decide) rfl rfl rfl); rotate_left; (focus rfl))
    rfl
def lastP (num kind : Nat) : List NW.Fld → NW.Fld → NW.Fld × Bool
  | [], out => (out, true)
  | f :: l, out => if f.num = num then (if f.kind = kind then lastP num kind l f else (out, false)) else lastP num kind l out
@[reducible] def fldV (f : NW.Fld) : List SC := [.v (.int .i64 f.num), .v (.int .i64 f.kind), .v (.int .u64 f.n), .v (.string (B f.s))]
def zF : NW.Fld := ⟨0, 0, 0, []⟩
theorem flds_get (l : List NW.Fld) (i j : Nat) (h : i < l.length) (hj : j < 4) : (flds l)[i * 4 + j]? = (fcells (l.getD i default))[j]? := by
  rw [← flds_cell l i h, List.getElem?_take_of_lt hj, List.getElem?_drop]
theorem flds_num (l : List NW.Fld) (i : Nat) (h : i < l.length) : (flds l)[i * 4]? = some (.int .i64 (l.getD i default).num) := flds_get l i 0 h (by decide)
theorem flds_kind (l : List NW.Fld) (i : Nat) (h : i < l.length) : (flds l)[i * 4 + 1]? = some (.int .i64 (l.getD i default).kind) := flds_get l i 1 h (by decide)
theorem lastP_step (num kind : Nat) (l : List NW.Fld) (i : Nat) (out : NW.Fld) (h : i < l.length) : lastP num kind (l.drop i) out = if (l.getD i default).num = num then (if (l.getD i default).kind = kind then lastP num kind (l.drop (i + 1)) (l.getD i default) else (out, false)) else lastP num kind (l.drop (i + 1)) out := by
  rw [List.drop_eq_getElem_cons h, lastP, List.getD_eq_getElem?_getD, List.getElem?_eq_getElem h, Option.getD_some]
theorem last_ctr (l : List NW.Fld) (hl : l.length ≤ 1099511627776) (num kind : Nat) : Ctr Tryd.prog [] 111 [rfrow l] [.one (.c (.row 0)), vv (.int .i64 num), vv (.int .i64 kind)]
    (fun os v => os = [rfrow l] ∧ v = .tup [.agg (fldV (lastP num kind l zF).1), .c (.v (.bool (lastP num kind l zF).2))]) := by
  refine Ctr.less ?_
  intro X0 hP0 hG0 N0 hN0
  refine CallVC.inline (f := 111) (by rw [hP0]; exact Tryd.func111) rfl Tryd.ntmps111 rfl (by simp) ?_
  intro X K hU hnt hbl hK
  have hP : X.P = Tryd.prog := hU.P.trans hP0
  have hG := hG0.under hU
  have hT := Ty.T111 hP
  simp only [GA, ↓GB, GX, simprocAttr] at hbl ⊢
  repeat' (first
    | (refine SX.seqK ?_; intro N hN)
    | ((first | (refine SX.ops ?_)); simp only [GA, ↓GB, GX, simprocAttr, hnt, hT])
    | ((first | refine SX.skip ?_ | refine SX.exit ?_ | refine SX.label ?_ | refine SX.ret ?_); try simp only [GA, ↓GB, GX, simprocAttr])
    | (refine hN _ ?_; clear hN N)
    | ((first | refine hK _ _ (FinI.ret3 ?_) | refine hK _ _ (FinI.nrm3 ?_)); simp only [GA, ↓GB, GX, simprocAttr, finP_s, hnt, hT]; refine Done.out ?_)
    | (clear hN N; first | (refine hN _ ?_; clear hN N) | (clear hN N; refine hN _ ?_; clear hN N))
    | ((first | refine SX.cond rfl (fun hb => ?_) (fun hb => ?_) | (refine bif2.mk (fun hb => ?_) (fun hb => ?_) <;> (try simp only [hb, GA, ↓GB, GX, simprocAttr, hnt, hT]))) <;> ((first | cases hb | (simp only [HBs] at hb) | skip) <;> (first | (exfalso; omega) | skip)))
    | (refine ⟨_, flds_num l _ (by omega), ?_⟩ <;> simp only [GA, ↓GB, GX, simprocAttr, hnt, hT])
    | (refine ⟨_, flds_kind l _ (by omega), ?_⟩ <;> simp only [GA, ↓GB, GX, simprocAttr, hnt, hT])
    | (refine SX.loop (ι := { p : Nat × NW.Fld // p.1 ≤ l.length ∧ lastP num kind l zF = lastP num kind (l.drop p.1) p.2 }) (fun p => ⟨[(0, .one (.c (.row 0))), (1, vv (.int .i64 num)), (2, vv (.int .i64 kind)), (6, .one (.c (.loc 1 0))), (7, vv (.bool false)), (8, .one (.c (.loc 2 0))), (9, vv (.int .i64 p.1.1))], [rfrow l, .cells (fldV zF) 179, .cells (fldV p.1.2) 179]⟩) (fun p => l.length - p.1.1) ⟨(0, zF), Nat.zero_le _, rfl⟩ ⟨[0, 1, 2], (LeR.of (by rw [hbl]; decide) (by simp only [GA, ↓GB, GX, simprocAttr, GDs]; try (first | rfl | exact ⟨rfl, rfl⟩)) (by simp only [GA, ↓GB, GX, simprocAttr, GDs]; try (first | rfl | exact ⟨rfl, rfl⟩)) (by decide) (by simp only [GA, ↓GB, GX, simprocAttr, GDs]) (by simp only [GA, ↓GB, GX, simprocAttr, GDs]) (by simp only [GA, ↓GB, GX, simprocAttr, GDs]))⟩ ?_ <;> rintro ⟨⟨i, out⟩, hi, hinv⟩ <;> simp only [] at hi hinv ⊢)
    | (refine ⟨fcells (l.getD i default), rfl, flds_cell l i (by omega), ?_⟩ <;> simp only [fcells, GA, ↓GB, GX, simprocAttr, hnt, hT])
    | (refine SX.block ?_)
    | (refine and_mk ?_ ?_; (focus first | decide | omega | rfl | assumption | (simp only [LBs]; omega) | (simp; done)))
    | (refine And.intro ?_ ?_))
  all_goals (try refine Done.mk ?_)
  · have e : lastP num kind l zF = (out, false) := by rw [hinv, lastP_step num kind l i out (by omega), if_pos (by omega), if_neg (by omega)]
    rw [e] at hN0
    (refine hN0 _ _ ⟨[0], _, _, ?_, ?_, ?_, ⟨rfl, rfl⟩⟩; (focus exact LeR.of rfl trivial (by simp only [GA, ↓GB, GX, simprocAttr, GDs]) (by decide) rfl rfl rfl); rotate_left; (focus rfl))
    rfl
  · have hk : (l.getD i default).kind = kind := by have h := of_decide_eq_false (p := ((l.getD i default).kind : Int) ≠ (kind : Int)) (by simpa using hb); simp only [ne_eq, Decidable.not_not] at h; omega
    have e : lastP num kind l zF = lastP num kind (l.drop (i + 1)) (l.getD i default) := by rw [hinv, lastP_step num kind l i out (by omega), if_pos (by omega), if_pos hk]
    refine ⟨⟨(i + 1, l.getD i default), by show i + 1 ≤ l.length; omega, e⟩, [0, 1, 2], (LeR.of (by rw [hbl]; decide) (by simp only [GA, ↓GB, GX, simprocAttr, GDs]; try (first | rfl | exact ⟨rfl, rfl⟩ | (rw [wI64 (by omega) (by omega)]; simp; done))) (by simp only [GA, ↓GB, GX, simprocAttr, GDs]; try (first | rfl | exact ⟨rfl, rfl⟩ | (rw [wI64 (by omega) (by omega)]; simp; done))) (by decide) (by simp only [GA, ↓GB, GX, simprocAttr, GDs]) (by simp only [GA, ↓GB, GX, simprocAttr, GDs]) (by simp only [GA, ↓GB, GX, simprocAttr, GDs])), by show l.length - (i + 1) < l.length - i; omega⟩
  · have e : lastP num kind l zF = lastP num kind (l.drop (i + 1)) out := by rw [hinv, lastP_step num kind l i out (by omega), if_neg (by omega)]
    refine ⟨⟨(i + 1, out), by show i + 1 ≤ l.length; omega, e⟩, [0, 1, 2], (LeR.of (by rw [hbl]; decide) (by simp only [GA, ↓GB, GX, simprocAttr, GDs]; try (first | rfl | exact ⟨rfl, rfl⟩ | (rw [wI64 (by omega) (by omega)]; simp; done))) (by simp only [GA, ↓GB, GX, simprocAttr, GDs]; try (first | rfl | exact ⟨rfl, rfl⟩ | (rw [wI64 (by omega) (by omega)]; simp; done))) (by decide) (by simp only [GA, ↓GB, GX, simprocAttr, GDs]) (by simp only [GA, ↓GB, GX, simprocAttr, GDs]) (by simp only [GA, ↓GB, GX, simprocAttr, GDs])), by show l.length - (i + 1) < l.length - i; omega⟩
  · have e : lastP num kind l zF = (out, true) := by rw [hinv, List.drop_of_length_le (by omega)]; rfl
    rw [e] at hN0
    (refine hN0 _ _ ⟨[0], _, _, ?_, ?_, ?_, ⟨rfl, rfl⟩⟩; (focus exact LeR.of rfl trivial (by simp only [GA, ↓GB, GX, simprocAttr, GDs]) (by decide) rfl rfl rfl); rotate_left; (focus rfl))
    rfl
end Go.Proofs.YtbdacbcpniegiaaDoor.Q
namespace Go.Proofs.YtbdacbcpniegiaaDoor
open Go Go.RowKit Go.Proofs Go.Sx
theorem cmpM_congr {a b c e : Mk} (h1 : a.t = c.t ∧ a.s = c.s ∧ a.q = c.q) (h2 : b.t = e.t ∧ b.s = e.s ∧ b.q = e.q) : cmpM a b = cmpM c e := by
  simp only [cmpM, h1.1, h1.2.1, h1.2.2, h2.1, h2.2.1, h2.2.2]
def Srt (ms : List Mk) : Prop := ms.Pairwise fun a b => cmpM a b < 0
def kk (t : Int) (s : List UInt8) (q : Int) (x : Mk) : Bool := x.t == t && x.s == s && x.q == q
theorem Srt.map {ms : List Mk} (h : Srt ms) {f : Mk → Mk} (hf : ∀ x, (f x).t = x.t ∧ (f x).s = x.s ∧ (f x).q = x.q) : Srt (ms.map f) := by
  rw [Srt, List.pairwise_map]
  exact h.imp fun {a b} hab => by rw [cmpM_congr (hf a) (hf b)]; exact hab
theorem Srt.filter {ms : List Mk} (h : Srt ms) (p : Mk → Bool) : Srt (ms.filter p) := List.Pairwise.sublist List.filter_sublist h
structure Inv (ms : List Mk) : Prop where
  srt : Srt ms
  room : ms.length ≤ 1024
theorem Inv.nil : Inv [] := ⟨List.Pairwise.nil, by decide⟩
theorem dropWhile_nil {p : UInt8 → Bool} : ∀ {l : List UInt8}, l.dropWhile p = [] ↔ ∀ c ∈ l, p c = true
  | [] => by simp
  | a :: l => by
    rw [List.dropWhile_cons]
    cases h : p a with
    | true => simp [h, dropWhile_nil (l := l)]
    | false => simp [h]
theorem trimS_nil {s cs : List UInt8} : Lib.trimS s cs = [] ↔ ∀ c ∈ s, cs.contains c = true := by
  rw [show Lib.trimS s cs = ((s.reverse.dropWhile (cs.contains ·)).reverse.dropWhile (cs.contains ·)) from rfl, dropWhile_nil]
  constructor
  · intro h
    have hd := List.head?_dropWhile_not (cs.contains ·) s.reverse
    cases e : s.reverse.dropWhile (cs.contains ·) with
    | nil =>
      have := dropWhile_nil.1 e
      intro c hc
      exact this c (List.mem_reverse.2 hc)
    | cons a r =>
      rw [e] at hd h
      have := h a (by simp)
      simp only [List.head?_cons] at hd
      rw [this] at hd; cases hd
  · intro h x hx
    rw [List.mem_reverse] at hx
    exact h x (List.mem_reverse.1 ((List.dropWhile_sublist _).subset hx))
def okC (c : UInt8) : Bool := (decide (97 ≤ (c.toNat : Int)) && decide ((c.toNat : Int) ≤ 122)) || (decide (48 ≤ (c.toNat : Int)) && decide ((c.toNat : Int) ≤ 57)) || decide ((c.toNat : Int) = 45) || decide ((c.toNat : Int) = 46) || decide ((c.toNat : Int) = 47)
theorem okC_eq (c : UInt8) : nameCs.contains c = okC c := by
  have := (by decide : ∀ x : Fin 256, nameCs.contains (UInt8.ofNat x.val) = okC (UInt8.ofNat x.val)) ⟨c.toNat, UInt8.toNat_lt c⟩
  simpa using this
theorem nameB_all {s : List UInt8} (h : ∀ j, j < s.length → okC (s.getD j 0) = true) : nameB s = (!(s == []) && decide ((s.length : Int) ≤ 64)) := by
  have : Lib.trimS s nameCs = [] := trimS_nil.2 fun c hc => by
    obtain ⟨j, hj, rfl⟩ := List.getElem_of_mem hc
    have := h j hj
    rw [okC_eq]
    rwa [List.getD_eq_getElem?_getD, List.getElem?_eq_getElem hj] at this
  unfold nameB
  rw [this]; simp
theorem nameB_bad {s : List UInt8} {j : Nat} (hj : j < s.length) (h : okC (s.getD j 0) = false) : nameB s = false := by
  have : ¬ Lib.trimS s nameCs = [] := fun e => by
    have := trimS_nil.1 e (s.getD j 0) (by rw [List.getD_eq_getElem?_getD, List.getElem?_eq_getElem hj]; exact List.getElem_mem hj)
    rw [okC_eq, h] at this; cases this
  unfold nameB
  have e : (Lib.trimS s nameCs == []) = false := by
    rw [Bool.eq_false_iff]; intro h; exact this (by simpa using h)
  rw [e]; simp
theorem rName_any (s : List UInt8) (hs : s.length ≤ 9223372036854775807) (w : World) : Calls Tryd.prog 137 #[.string (B s)] w fun e w' => e = .returned (.bool (nameB s)) ∧ Below w.heap.size w w' := by
  refine calls_pureK (args := [.string (B s)]) w Tryd.func137 rfl Tryd.ntmps137 (by simp) ?_
  intro X K hX hK
  have hnt : X.nt = 49 := by rw [hX]
  have hwi : X.wi = w := by rw [hX]
  have hP : X.P = Tryd.prog := by rw [hX]
  have hown : X.own = [] := by rw [hX]
  have hbl : X.base.length = 0 := by rw [hX]; rfl
  clear hX
  have hT := Ty.T137 hP
  repeat' (first
    | (refine SX.seqK ?_; intro N hN)
    | ((first | (refine SX.ops ?_)); simp only [GA, ↓GB, GX, simprocAttr, hnt, hT, hnt])
    | ((first | refine SX.skip ?_ | refine SX.exit ?_ | refine SX.label ?_ | refine SX.ret ?_); try simp only [GA, ↓GB, GX, simprocAttr])
    | (refine hN _ ?_; clear hN N)
    | (refine hK _ _ (Fin.res rfl hown ?_); simp only [GA, ↓GB, GX, simprocAttr, f_a, f_b, f_n, f_c, f_B, f_v, f_g, f_0, f_1, f_2, hT, hwi, hnt]; intro w' hbel; refine Done.out ?_)
    | (clear hN N; first | (refine hN _ ?_; clear hN N) | (clear hN N; refine hN _ ?_; clear hN N))
    | ((first | refine SX.cond rfl (fun hb => ?_) (fun hb => ?_) | (refine bif2.mk (fun hb => ?_) (fun hb => ?_) <;> (try simp only [hb, GA, ↓GB, GX, simprocAttr, hnt, hT, hnt]))) <;> ((first | cases hb | (simp only [HBs] at hb) | skip) <;> (first | (exfalso; omega) | skip)))
    | (refine SX.loop (ι := { i : Nat // i ≤ s.length ∧ ∀ j, j < i → okC (s.getD j 0) = true }) (fun i => ⟨[(0, vv (.string (B s))), (3, vv (.int .i64 i.1))], []⟩) (fun i => s.length - i.1) ⟨0, Nat.zero_le _, fun j hj => absurd hj (Nat.not_lt_zero j)⟩ ⟨[], (LeR.of (by rw [hbl]; decide) (by simp only [GA, ↓GB, GX, simprocAttr, GDs]; try (rfl)) (by simp only [GA, ↓GB, GX, simprocAttr, GDs]; try (rfl)) (by decide) (by simp only [GA, ↓GB, GX, simprocAttr, GDs]) (by simp only [GA, ↓GB, GX, simprocAttr, GDs]) (by simp only [GA, ↓GB, GX, simprocAttr, GDs]))⟩ ?_ <;> rintro ⟨i, hi, hno⟩ <;> simp only [] at hi hno ⊢)
    | (refine SX.block ?_)
    | (refine and_mk ?_ ?_; (focus first | decide | omega | rfl | assumption | (simp only [LBs]; omega) | (simp; done)))
    | (refine And.intro ?_ ?_))
  all_goals (try refine Done.mk ?_)
  all_goals first
    | exact ⟨by rw [nameB_bad (j := i) (by omega) (by unfold okC; simp only [Bool.or_eq_false_iff, Bool.and_eq_false_iff, decide_eq_false_iff_not]; omega)], hbel⟩
    | (refine ⟨⟨i + 1, by omega, fun j hj => ?_⟩, [], (LeR.of (by rw [hbl]; decide) (by simp only [GA, ↓GB, GX, simprocAttr, GDs]; try (first | (rw [wI64 (by omega) (by omega)]; rfl) | rfl)) (by simp only [GA, ↓GB, GX, simprocAttr, GDs]; try (first | (rw [wI64 (by omega) (by omega)]; rfl) | rfl)) (by decide) (by simp only [GA, ↓GB, GX, simprocAttr, GDs]) (by simp only [GA, ↓GB, GX, simprocAttr, GDs]) (by simp only [GA, ↓GB, GX, simprocAttr, GDs])), by show s.length - (i + 1) < s.length - i; omega⟩
       rcases Nat.lt_or_eq_of_le (Nat.le_of_lt_succ hj) with h | h
       · exact hno j h
       · subst h; unfold okC; simp only [Bool.or_eq_true, Bool.and_eq_true, decide_eq_true_eq]; omega)
    | (obtain rfl : i = s.length := by omega
       refine ⟨?_, hbel⟩
       rw [nameB_all hno]
       cases s <;> simp_all <;> omega)
    | trace_state
theorem rKey_any (t : Int) (s : List UInt8) (hs : s.length ≤ 9223372036854775807) (w : World) : Calls Tryd.prog 94 #[.agg #[.int .i64 t, .string (B s)]] w fun e w' => e = .returned (.bool (keyB t s)) ∧ Below w.heap.size w w' := by
  refine calls_pureK (args := [.agg #[.int .i64 t, .string (B s)]]) w Tryd.func94 rfl Tryd.ntmps94 (by simp) ?_
  intro X K hX hK
  have hnt : X.nt = 23 := by rw [hX]
  have hwi : X.wi = w := by rw [hX]
  have hP : X.P = Tryd.prog := by rw [hX]
  have hown : X.own = [] := by rw [hX]
  have hbl : X.base.length = 0 := by rw [hX]; rfl
  clear hX
  have hT := Ty.T94 hP
  repeat' (first
    | (refine SX.seqK ?_; intro N hN)
    | ((first | (refine SX.ops ?_)); simp only [GA, ↓GB, GX, simprocAttr, hnt, hT])
    | ((first | refine SX.skip ?_ | refine SX.exit ?_ | refine SX.label ?_ | refine SX.ret ?_); try simp only [GA, ↓GB, GX, simprocAttr])
    | (refine hN _ ?_; clear hN N)
    | (refine hK _ _ (Fin.res rfl hown ?_); simp only [GA, ↓GB, GX, simprocAttr, f_a, f_b, f_n, f_c, f_B, f_v, f_g, f_0, f_1, f_2, hT, hwi]; intro w' hbel; refine Done.out ?_)
    | (refine bif2.mk (fun hb => ?_) (fun hb => ?_) <;> (try simp only [hb, GA, ↓GB, GX, simprocAttr, hnt, hT]) <;> ((first | cases hb | (simp only [HBs] at hb) | skip) <;> (first | (exfalso; omega) | skip)))
    | ((first | (refine CallVC.pv hP (rName_any _ hs) rfl ?_) | (refine CallQ.pv hP (rName_any _ hs) rfl ?_)); simp only [GA, ↓GB, GX, simprocAttr, hnt, hT])
    | (refine and_mk ?_ ?_; (focus first | decide | omega | rfl | assumption | (simp only [LBs]; omega) | (simp; done)))
    | (refine And.intro ?_ ?_))
  all_goals (try refine Done.mk ?_)
  all_goals (refine ⟨?_, hbel⟩; simp_all [keyB] <;> (intros; omega))
end Go.Proofs.YtbdacbcpniegiaaDoor
namespace Go.Proofs.YtbdacbcpniegiaaDoor.Q
open Go Go.RowKit Go.Proofs Go.Sx
theorem rright_any (r : Rs) (hs : r.s.length ≤ 9223372036854775807) (w : World) :
    Calls Tryd.prog 106 #[.agg #[.int .i64 r.t, .string (B r.s), .int .u64 r.q, .bool r.g, .string (B r.b)]] w fun e w' => e = .returned (.bool (rightB r)) ∧ Below w.heap.size w w' := by
  refine calls_pureK (args := [.agg #[.int .i64 r.t, .string (B r.s), .int .u64 r.q, .bool r.g, .string (B r.b)]]) w Tryd.func106 rfl Tryd.ntmps106 (by simp) ?_
  intro X K hX hK
  have hnt : X.nt = 40 := by rw [hX]
  have hwi : X.wi = w := by rw [hX]
  have hP : X.P = Tryd.prog := by rw [hX]
  have hown : X.own = [] := by rw [hX]
  have hbl : X.base.length = 0 := by rw [hX]; rfl
  clear hX
  have hT := Ty.T106 hP
  repeat' (first
    | (refine SX.seqK ?_; intro N hN)
    | ((first | (refine SX.ops ?_)); simp only [GA, ↓GB, GX, simprocAttr, hnt, hT])
    | ((first | refine SX.skip ?_ | refine SX.exit ?_ | refine SX.label ?_ | refine SX.ret ?_); try simp only [GA, ↓GB, GX, simprocAttr])
    | (refine hN _ ?_; clear hN N)
    | (refine hK _ _ (Fin.res rfl hown ?_); simp only [GA, ↓GB, GX, simprocAttr, f_a, f_b, f_n, f_c, f_B, f_v, f_g, f_0, f_1, f_2, hT, hwi]; intro w' hbel; refine Done.out ?_)
    | (refine bif2.mk (fun hb => ?_) (fun hb => ?_) <;> (try simp only [hb, GA, ↓GB, GX, simprocAttr, hnt, hT]) <;> ((first | cases hb | (simp only [HBs] at hb) | skip) <;> (first | (exfalso; omega) | skip)))
    | ((first | (refine CallVC.pv hP (rKey_any _ _ hs) rfl ?_) | (refine CallQ.pv hP (rKey_any _ _ hs) rfl ?_)); simp only [GA, ↓GB, GX, simprocAttr, hnt, hT])
    | (refine and_mk ?_ ?_; (focus first | decide | omega | rfl | assumption | (simp only [LBs]; omega) | (simp; done)))
    | (refine And.intro ?_ ?_))
  all_goals (try refine Done.mk ?_)
  all_goals (refine ⟨?_, hbel⟩; clear hK hT hP hnt hwi hown hbl; simp_all [rightB] <;> (intros; omega))
theorem rput_no (r : Rs) (hs : r.s.length ≤ 9223372036854775807) (h : rightB r = false) (w : World) :
    Calls Tryd.prog 47 #[.agg #[.int .i64 r.t, .string (B r.s), .int .u64 r.q, .bool r.g, .string (B r.b)]] w fun e w' => e = .returned (.tuple #[.string (B []), .bool false]) ∧ Below w.heap.size w w' := by
  refine calls_pureK (args := [.agg #[.int .i64 r.t, .string (B r.s), .int .u64 r.q, .bool r.g, .string (B r.b)]]) w Tryd.func47 rfl Tryd.ntmps47 (by simp) ?_
  intro X K hX hK
  have hnt : X.nt = 38 := by rw [hX]
  have hwi : X.wi = w := by rw [hX]
  have hP : X.P = Tryd.prog := by rw [hX]
  have hown : X.own = [] := by rw [hX]
  have hbl : X.base.length = 0 := by rw [hX]; rfl
  clear hX
  have hT := Ty.T47 hP
  repeat' (first
    | (refine SX.seqK ?_; intro N hN)
    | ((first | (refine SX.ops ?_)); simp only [GA, ↓GB, GX, simprocAttr, hnt, hT, h])
    | ((first | refine SX.skip ?_ | refine SX.exit ?_ | refine SX.label ?_ | refine SX.ret ?_); try simp only [GA, ↓GB, GX, simprocAttr])
    | (refine hN _ ?_; clear hN N)
    | (refine hK _ _ (Fin.res rfl hown ?_); simp only [GA, ↓GB, GX, simprocAttr, f_a, f_b, f_n, f_c, f_B, f_v, f_g, f_0, f_1, f_2, hT, hwi, h]; intro w' hbel; refine Done.out ?_)
    | ((first | refine SX.cond rfl (fun hb => ?_) (fun hb => ?_) | (refine bif2.mk (fun hb => ?_) (fun hb => ?_) <;> (try simp only [hb, GA, ↓GB, GX, simprocAttr, hnt, hT, h]))) <;> ((first | cases hb | (simp only [HBs] at hb) | skip) <;> (first | (exfalso; omega) | skip)))
    | ((first | (refine CallVC.pv hP (rright_any r hs) rfl ?_) | (refine CallQ.pv hP (rright_any r hs) rfl ?_)); simp only [GA, ↓GB, GX, simprocAttr, hnt, hT, h])
    | (refine and_mk ?_ ?_; (focus first | decide | omega | rfl | assumption | (simp only [LBs]; omega) | (simp; done)))
    | (refine And.intro ?_ ?_))
  all_goals (try refine Done.mk ?_)
  all_goals exact hbel
theorem rput_yes (r : Rs) (h : rightB r = true) (w : World) :
    Calls Tryd.prog 47 #[.agg #[.int .i64 r.t, .string (B r.s), .int .u64 r.q, .bool r.g, .string (B r.b)]] w fun e w' => e = .returned (.tuple #[.string (B (resB r r.t.toNat)), .bool true]) ∧ Below w.heap.size w w' := by
  obtain ⟨h1, h2, h3, h4, h5, h6⟩ := right_type h
  have hr := rright_any r (by omega)
  obtain ⟨t, s, q, g, b⟩ := r
  simp only [] at h1 h2 h3 h4 h5 h6 hr
  obtain ⟨t, rfl⟩ : ∃ n : Nat, t = n := ⟨t.toNat, by omega⟩
  have e1 : IntKind.u64.wrap (t : Int) = (t : Int) := wU64 (by omega) (by omega)
  rw [Int.toNat_natCast]
  have n1 := numB_len 1 t (by decide) (by omega)
  have n2 := textB_len 2 s (by decide) (by omega)
  have n3 := numB_len 3 q (by decide) (by omega)
  have n4 := numB_len 4 1 (by decide) (by decide)
  have n5 := textB_len 5 b (by decide) (by omega)
  cases g with
  | true =>
    by_cases hb : b = []
    · subst hb
      refine calls_pureK (args := [.agg #[.int .i64 t, .string (B s), .int .u64 q, .bool true, .string (B [])]]) w Tryd.func47 rfl Tryd.ntmps47 (by simp) ?_
      intro X K hX hK
      have hnt : X.nt = 38 := by rw [hX]
      have hwi : X.wi = w := by rw [hX]
      have hP : X.P = Tryd.prog := by rw [hX]
      have hown : X.own = [] := by rw [hX]
      have hbl : X.base.length = 0 := by rw [hX]; rfl
      clear hX
      have hT := Ty.T47 hP
      repeat' (first
        | (refine SX.seqK ?_; intro N hN)
        | ((first | (refine SX.ops ?_) | (refine SX.planT (id := 4) [.q [(0, [1]), (1, [10]), (2, [11]), (3, [12]), (4, [13]), (5, [1]), (6, [15]), (7, [16]), (8, [17]), (9, [14, 18]), (10, [1]), (11, [20]), (12, [21]), (13, [19, 22]), (14, [23])] none] ?_ ?_ ?_; (focus first | (rw [hP]; kernel_rfl) | (rw [hU1P, hP]; kernel_rfl)); (focus kernel_rfl))); simp only [GA, ↓GB, GX, simprocAttr, hnt, hT, h, e1])
        | ((first | refine SX.skip ?_ | refine SX.exit ?_ | refine SX.label ?_ | refine SX.ret ?_); try simp only [GA, ↓GB, GX, simprocAttr])
        | (refine hN _ ?_; clear hN N)
        | (refine hK _ _ (Fin.res rfl hown ?_); simp only [GA, ↓GB, GX, simprocAttr, f_a, f_b, f_n, f_c, f_B, f_v, f_g, f_0, f_1, f_2, hT, hwi, h, e1]; intro w' hbel; refine Done.out ?_)
        | ((first | refine SX.cond rfl (fun hb => ?_) (fun hb => ?_) | (refine bif2.mk (fun hb => ?_) (fun hb => ?_) <;> (try simp only [hb, GA, ↓GB, GX, simprocAttr, hnt, hT, h, e1]))) <;> ((first | cases hb | (simp only [HBs] at hb) | skip) <;> (first | (exfalso; omega) | skip)))
        | ((first | (refine CallVC.pv hP (hr) rfl ?_) | (refine CallQ.pv hP (hr) rfl ?_) | (refine CallVC.pv hP (rNumber_any 1 t (by decide) (by decide) (by omega)) rfl ?_) | (refine CallQ.pv hP (rNumber_any 1 t (by decide) (by decide) (by omega)) rfl ?_) | (refine CallVC.pv hP (rNumber_any 3 q (by decide) (by decide) (by omega)) rfl ?_) | (refine CallQ.pv hP (rNumber_any 3 q (by decide) (by decide) (by omega)) rfl ?_) | (refine CallVC.pv hP (rNumber_any 4 1 (by decide) (by decide) (by decide)) rfl ?_) | (refine CallQ.pv hP (rNumber_any 4 1 (by decide) (by decide) (by decide)) rfl ?_) | (refine CallVC.pv hP (rText_any 2 s (by decide) (by decide) (by omega)) rfl ?_) | (refine CallQ.pv hP (rText_any 2 s (by decide) (by decide) (by omega)) rfl ?_)); simp only [GA, ↓GB, GX, simprocAttr, hnt, hT, h, e1])
        | (refine and_mk ?_ ?_; (focus first | decide | omega | rfl | assumption | (simp only [LBs]; omega) | (simp; done)))
        | (refine And.intro ?_ ?_))
      all_goals (try refine Done.mk ?_)
      all_goals first
        | ((try simp only [List.length_append]); omega)
        | (refine ⟨?_, hbel⟩; simp_all [resB])
    · exfalso
      simp [rightB, hb] at h
  | false =>
    by_cases hb : b = []
    · subst hb
      refine calls_pureK (args := [.agg #[.int .i64 t, .string (B s), .int .u64 q, .bool false, .string (B [])]]) w Tryd.func47 rfl Tryd.ntmps47 (by simp) ?_
      intro X K hX hK
      have hnt : X.nt = 38 := by rw [hX]
      have hwi : X.wi = w := by rw [hX]
      have hP : X.P = Tryd.prog := by rw [hX]
      have hown : X.own = [] := by rw [hX]
      have hbl : X.base.length = 0 := by rw [hX]; rfl
      clear hX
      have hT := Ty.T47 hP
      repeat' (first
        | (refine SX.seqK ?_; intro N hN)
        | ((first | (refine SX.ops ?_) | (refine SX.planT (id := 4) [.q [(0, [1]), (1, [10]), (2, [11]), (3, [12]), (4, [13]), (5, [1]), (6, [15]), (7, [16]), (8, [17]), (9, [14, 18]), (10, [1]), (11, [20]), (12, [21]), (13, [19, 22]), (14, [23])] none] ?_ ?_ ?_; (focus first | (rw [hP]; kernel_rfl) | (rw [hU1P, hP]; kernel_rfl)); (focus kernel_rfl))); simp only [GA, ↓GB, GX, simprocAttr, hnt, hT, h, e1])
        | ((first | refine SX.skip ?_ | refine SX.exit ?_ | refine SX.label ?_ | refine SX.ret ?_); try simp only [GA, ↓GB, GX, simprocAttr])
        | (refine hN _ ?_; clear hN N)
        | (refine hK _ _ (Fin.res rfl hown ?_); simp only [GA, ↓GB, GX, simprocAttr, f_a, f_b, f_n, f_c, f_B, f_v, f_g, f_0, f_1, f_2, hT, hwi, h, e1]; intro w' hbel; refine Done.out ?_)
        | ((first | refine SX.cond rfl (fun hb => ?_) (fun hb => ?_) | (refine bif2.mk (fun hb => ?_) (fun hb => ?_) <;> (try simp only [hb, GA, ↓GB, GX, simprocAttr, hnt, hT, h, e1]))) <;> ((first | cases hb | (simp only [HBs] at hb) | skip) <;> (first | (exfalso; omega) | skip)))
        | ((first | (refine CallVC.pv hP (hr) rfl ?_) | (refine CallQ.pv hP (hr) rfl ?_) | (refine CallVC.pv hP (rNumber_any 1 t (by decide) (by decide) (by omega)) rfl ?_) | (refine CallQ.pv hP (rNumber_any 1 t (by decide) (by decide) (by omega)) rfl ?_) | (refine CallVC.pv hP (rNumber_any 3 q (by decide) (by decide) (by omega)) rfl ?_) | (refine CallQ.pv hP (rNumber_any 3 q (by decide) (by decide) (by omega)) rfl ?_) | (refine CallVC.pv hP (rText_any 2 s (by decide) (by decide) (by omega)) rfl ?_) | (refine CallQ.pv hP (rText_any 2 s (by decide) (by decide) (by omega)) rfl ?_)); simp only [GA, ↓GB, GX, simprocAttr, hnt, hT, h, e1])
        | (refine and_mk ?_ ?_; (focus first | decide | omega | rfl | assumption | (simp only [LBs]; omega) | (simp; done)))
        | (refine And.intro ?_ ?_))
      all_goals (try refine Done.mk ?_)
      all_goals first
        | ((try simp only [List.length_append]); omega)
        | (refine ⟨?_, hbel⟩; simp_all [resB])
    · have gb : (b == []) = false := by cases b <;> simp_all
      refine calls_pureK (args := [.agg #[.int .i64 t, .string (B s), .int .u64 q, .bool false, .string (B b)]]) w Tryd.func47 rfl Tryd.ntmps47 (by simp) ?_
      intro X K hX hK
      have hnt : X.nt = 38 := by rw [hX]
      have hwi : X.wi = w := by rw [hX]
      have hP : X.P = Tryd.prog := by rw [hX]
      have hown : X.own = [] := by rw [hX]
      have hbl : X.base.length = 0 := by rw [hX]; rfl
      clear hX
      have hT := Ty.T47 hP
      repeat' (first
        | (refine SX.seqK ?_; intro N hN)
        | ((first | (refine SX.ops ?_) | (refine SX.planT (id := 4) [.q [(0, [1]), (1, [10]), (2, [11]), (3, [12]), (4, [13]), (5, [1]), (6, [15]), (7, [16]), (8, [17]), (9, [14, 18]), (10, [1]), (11, [20]), (12, [21]), (13, [19, 22]), (14, [23])] none] ?_ ?_ ?_; (focus first | (rw [hP]; kernel_rfl) | (rw [hU1P, hP]; kernel_rfl)); (focus kernel_rfl))); simp only [GA, ↓GB, GX, simprocAttr, hnt, hT, h, e1, gb])
        | ((first | refine SX.skip ?_ | refine SX.exit ?_ | refine SX.label ?_ | refine SX.ret ?_); try simp only [GA, ↓GB, GX, simprocAttr])
        | (refine hN _ ?_; clear hN N)
        | (refine hK _ _ (Fin.res rfl hown ?_); simp only [GA, ↓GB, GX, simprocAttr, f_a, f_b, f_n, f_c, f_B, f_v, f_g, f_0, f_1, f_2, hT, hwi, h, e1, gb]; intro w' hbel; refine Done.out ?_)
        | ((first | refine SX.cond rfl (fun hb => ?_) (fun hb => ?_) | (refine bif2.mk (fun hb => ?_) (fun hb => ?_) <;> (try simp only [hb, GA, ↓GB, GX, simprocAttr, hnt, hT, h, e1, gb]))) <;> ((first | cases hb | (simp only [HBs] at hb) | skip) <;> (first | (exfalso; omega) | skip)))
        | ((first | (refine CallVC.pv hP (hr) rfl ?_) | (refine CallQ.pv hP (hr) rfl ?_) | (refine CallVC.pv hP (rNumber_any 1 t (by decide) (by decide) (by omega)) rfl ?_) | (refine CallQ.pv hP (rNumber_any 1 t (by decide) (by decide) (by omega)) rfl ?_) | (refine CallVC.pv hP (rNumber_any 3 q (by decide) (by decide) (by omega)) rfl ?_) | (refine CallQ.pv hP (rNumber_any 3 q (by decide) (by decide) (by omega)) rfl ?_) | (refine CallVC.pv hP (rText_any 2 s (by decide) (by decide) (by omega)) rfl ?_) | (refine CallQ.pv hP (rText_any 2 s (by decide) (by decide) (by omega)) rfl ?_) | (refine CallVC.pv hP (rText_any 5 b (by decide) (by decide) (by omega)) rfl ?_) | (refine CallQ.pv hP (rText_any 5 b (by decide) (by decide) (by omega)) rfl ?_)); simp only [GA, ↓GB, GX, simprocAttr, hnt, hT, h, e1, gb])
        | (refine and_mk ?_ ?_; (focus first | decide | omega | rfl | assumption | (simp only [LBs]; omega) | (simp; done)))
        | (refine And.intro ?_ ?_))
      all_goals (try refine Done.mk ?_)
      all_goals first
        | ((try simp only [List.length_append]); omega)
        | (refine ⟨?_, hbel⟩; simp_all [resB])
theorem last_nil (num kind : Nat) : Ctr Tryd.prog [] 111 [] [.one (.c (.v (.slice none 0 0))), vv (.int .i64 num), vv (.int .i64 kind)]
    (fun os v => os = [] ∧ v = .tup [.agg (fldV zF), .c (.v (.bool true))]) := by
  refine Ctr.less ?_
  intro X0 hP0 hG0 N0 hN0
  refine CallVC.inline (f := 111) (by rw [hP0]; exact Tryd.func111) rfl Tryd.ntmps111 rfl (by simp) ?_
  intro X K hU hnt hbl hK
  have hP : X.P = Tryd.prog := hU.P.trans hP0
  have hG := hG0.under hU
  have hT := Ty.T111 hP
  simp only [GA, ↓GB, GX, simprocAttr] at hbl ⊢
  repeat' (first
    | (refine SX.seqK ?_; intro N hN)
    | ((first | (refine SX.ops ?_)); simp only [GA, ↓GB, GX, simprocAttr, hnt, hT])
    | ((first | refine SX.skip ?_ | refine SX.exit ?_ | refine SX.label ?_ | refine SX.ret ?_); try simp only [GA, ↓GB, GX, simprocAttr])
    | (refine hN _ ?_; clear hN N)
    | ((first | refine hK _ _ (FinI.ret3 ?_) | refine hK _ _ (FinI.nrm3 ?_)); simp only [GA, ↓GB, GX, simprocAttr, finP_s, hnt, hT]; refine Done.out ?_)
    | (clear hN N; first | (refine hN _ ?_; clear hN N) | (clear hN N; refine hN _ ?_; clear hN N))
    | ((first | refine SX.cond rfl (fun hb => ?_) (fun hb => ?_) | (refine bif2.mk (fun hb => ?_) (fun hb => ?_) <;> (try simp only [hb, GA, ↓GB, GX, simprocAttr, hnt, hT]))) <;> ((first | cases hb | (simp only [HBs] at hb) | skip) <;> (first | (exfalso; omega) | skip)))
    | (refine SX.loopN 1 ?_)
    | (refine SXr.stepK ?_; intro N hN)
    | (refine SX.block ?_)
    | (refine and_mk ?_ ?_; (focus first | decide | omega | rfl | assumption | (simp only [LBs]; omega) | (simp; done)))
    | (refine And.intro ?_ ?_))
  all_goals (try refine Done.mk ?_)
  all_goals ((refine hN0 _ _ ⟨[], _, _, ?_, ?_, ?_, ⟨rfl, rfl⟩⟩; (focus exact LeR.of rfl trivial (by simp only [GA, ↓GB, GX, simprocAttr, GDs]) (by decide) rfl rfl rfl); rotate_left; (focus rfl)); rfl)
def rsP (l : List NW.Fld) : Rs := ⟨(lastP 1 0 l zF).1.n, (lastP 2 2 l zF).1.s, (lastP 3 0 l zF).1.n, (((lastP 4 0 l zF).1.n : Int) == 1), (lastP 5 2 l zF).1.s⟩
def okP (l : List NW.Fld) : Bool := (lastP 1 0 l zF).2 && (lastP 2 2 l zF).2 && (lastP 3 0 l zF).2 && (lastP 4 0 l zF).2 && (lastP 5 2 l zF).2 && decide ((lastP 4 0 l zF).1.n ≤ 1) && decide ((lastP 1 0 l zF).1.n ≤ 5)
def resP (s : List UInt8) : Option Rs := match NW.parse s with
  | none => none
  | some l => if okP l = true ∧ rightB (rsP l) = true then some (rsP l) else none
theorem rGet_none (s : List UInt8) (hs : s.length ≤ 1099511627776) (hl : NW.parse s = none) : Ctr Tryd.prog [] 50 [] [vv (.string (B s))] (fun os v => os = [] ∧ v = resV none) := by
  have hp := rParse_ctr s hs
  rw [hl] at hp
  simp only [rparsedO, rparsedV] at hp
  have l1 := last_nil 1 0
  have l2 := last_nil 2 2
  have l3 := last_nil 3 0
  have l4 := last_nil 4 0
  have l5 := last_nil 5 2
  refine Ctr.less ?_
  intro X0 hP0 hG0 N0 hN0
  refine CallVC.inline (f := 50) (by rw [hP0]; exact Tryd.func50) rfl Tryd.ntmps50 rfl (by simp) ?_
  intro X K hU hnt hbl hK
  have hP : X.P = Tryd.prog := hU.P.trans hP0
  have hG := hG0.under hU
  have hT := Ty.T50 hP
  simp only [GA, ↓GB, GX, simprocAttr] at hbl ⊢
  repeat' (first
    | (refine SX.seqK ?_; intro N hN)
    | ((first | (refine SX.ops ?_)); simp only [GA, ↓GB, GX, simprocAttr, hnt, hT])
    | ((first | refine SX.skip ?_ | refine SX.exit ?_ | refine SX.label ?_ | refine SX.ret ?_); try simp only [GA, ↓GB, GX, simprocAttr])
    | (refine hN _ ?_; clear hN N)
    | ((first | refine hK _ _ (FinI.ret3 ?_) | refine hK _ _ (FinI.nrm3 ?_)); simp only [GA, ↓GB, GX, simprocAttr, finP_s, hnt, hT]; refine Done.out ?_)
    | ((first | refine SX.cond rfl (fun hb => ?_) (fun hb => ?_) | (refine bif2.mk (fun hb => ?_) (fun hb => ?_) <;> (try simp only [hb, GA, ↓GB, GX, simprocAttr, hnt, hT]))) <;> ((first | cases hb | (simp only [HBs] at hb) | skip) <;> (first | (exfalso; omega) | skip)))
    | ((first | (refine Ctr.use (hp) hP hG [] ?_ rfl rfl ?_; (focus (refine LeR.of rfl trivial ?_ ?_ ?_ ?_ ?_ <;> first | decide | (simp only [GA, ↓GB, GX, simprocAttr, GDs]; done))); intro os' s hR; obtain ⟨rfl, rfl⟩ := hR) | (refine Ctr.use (l1) hP hG [] ?_ rfl rfl ?_; (focus (refine LeR.of rfl trivial ?_ ?_ ?_ ?_ ?_ <;> first | decide | (simp only [GA, ↓GB, GX, simprocAttr, GDs]; done))); intro os' s hR; obtain ⟨rfl, rfl⟩ := hR) | (refine Ctr.use (l2) hP hG [] ?_ rfl rfl ?_; (focus (refine LeR.of rfl trivial ?_ ?_ ?_ ?_ ?_ <;> first | decide | (simp only [GA, ↓GB, GX, simprocAttr, GDs]; done))); intro os' s hR; obtain ⟨rfl, rfl⟩ := hR) | (refine Ctr.use (l3) hP hG [] ?_ rfl rfl ?_; (focus (refine LeR.of rfl trivial ?_ ?_ ?_ ?_ ?_ <;> first | decide | (simp only [GA, ↓GB, GX, simprocAttr, GDs]; done))); intro os' s hR; obtain ⟨rfl, rfl⟩ := hR) | (refine Ctr.use (l4) hP hG [] ?_ rfl rfl ?_; (focus (refine LeR.of rfl trivial ?_ ?_ ?_ ?_ ?_ <;> first | decide | (simp only [GA, ↓GB, GX, simprocAttr, GDs]; done))); intro os' s hR; obtain ⟨rfl, rfl⟩ := hR) | (refine Ctr.use (l5) hP hG [] ?_ rfl rfl ?_; (focus (refine LeR.of rfl trivial ?_ ?_ ?_ ?_ ?_ <;> first | decide | (simp only [GA, ↓GB, GX, simprocAttr, GDs]; done))); intro os' s hR; obtain ⟨rfl, rfl⟩ := hR)); simp only [GA, ↓GB, GX, simprocAttr, hnt, hT])
    | (refine and_mk ?_ ?_; (focus first | decide | omega | rfl | assumption | (simp only [LBs]; omega) | (simp; done)))
    | (refine And.intro ?_ ?_))
  all_goals (try refine Done.mk ?_)
  all_goals ((refine hN0 _ _ ⟨[], _, _, ?_, ?_, ?_, ⟨rfl, rfl⟩⟩; (focus exact LeR.of rfl trivial (by simp only [GA, ↓GB, GX, simprocAttr, GDs]) (by decide) rfl rfl rfl); rotate_left; (focus rfl)); rfl)
def lastF (k : Nat) (l : List NW.Fld) (out : NW.Fld) : NW.Fld := l.foldl (fun o f => if f.num = k then f else o) out
def okK (k kd : Nat) (f : NW.Fld) : Bool := !(f.num == k) || f.kind == kd
theorem lastP_ok (k kd : Nat) : ∀ (l : List NW.Fld) (out : NW.Fld), (lastP k kd l out).2 = l.all (okK k kd)
  | [], out => rfl
  | f :: l, out => by
    unfold lastP
    by_cases h : f.num = k
    · rw [if_pos h]
      by_cases h2 : f.kind = kd
      · rw [if_pos h2, lastP_ok k kd l f]; simp [okK, h, h2]
      · rw [if_neg h2]; simp [okK, h, h2]
    · rw [if_neg h, lastP_ok k kd l out]; simp [okK, h]
theorem lastP_val (k kd : Nat) : ∀ (l : List NW.Fld) (out : NW.Fld), l.all (okK k kd) = true → (lastP k kd l out).1 = lastF k l out
  | [], out, _ => rfl
  | f :: l, out, ha => by
    simp only [List.all_cons, Bool.and_eq_true] at ha
    unfold lastP
    show _ = lastF k l (if f.num = k then f else out)
    by_cases h : f.num = k
    · have h2 : f.kind = kd := by have := ha.1; simpa [okK, h] using this
      rw [if_pos h, if_pos h2, if_pos h]; exact lastP_val k kd l f ha.2
    · rw [if_neg h, if_neg h]; exact lastP_val k kd l out ha.2
def ok5 (f : NW.Fld) : Bool := okK 1 0 f && okK 2 2 f && okK 3 0 f && okK 4 0 f && okK 5 2 f
theorem put_last (j : Nat) (f : NW.Fld) (h : f.num = j) (es : List (Nat × NW.Fld)) (k : Nat) : lastN k (putN j f es) = if f.num = k then f else lastN k es := by
  simp only [lastN, findN_put]
  by_cases hk : k = j
  · rw [if_pos hk, if_pos (by omega)]; rfl
  · rw [if_neg hk, if_neg (by omega)]
theorem stepT_spec (m : LSt) (f : NW.Fld) : (stepT m f).1 = (m.1 && ok5 f) ∧ ∀ k, 1 ≤ k → k ≤ 5 → lastN k (stepT m f).2 = if f.num = k then f else lastN k m.2 := by
  have e : some (stepT m f) = stepR f m := (stepR_some f m).symm
  by_cases h1 : f.num = 1
  · have e1 : stepT m f = (m.1 && ((0 : Int) == (f.kind : Int)), putN 1 f m.2) := by apply Option.some.inj; rw [e]; simp [stepR, h1]
    rw [e1]
    refine ⟨?_, fun k hk1 hk2 => put_last 1 f h1 m.2 k⟩
    show (m.1 && _) = _; congr 1; simp [ok5, okK, h1]; rw [Bool.eq_iff_iff]; simp; omega
  by_cases h2 : f.num = 2
  · have e1 : stepT m f = (m.1 && ((2 : Int) == (f.kind : Int)), putN 2 f m.2) := by apply Option.some.inj; rw [e]; simp [stepR, h2]
    rw [e1]
    refine ⟨?_, fun k hk1 hk2 => put_last 2 f h2 m.2 k⟩
    show (m.1 && _) = _; congr 1; simp [ok5, okK, h2]; rw [Bool.eq_iff_iff]; simp; omega
  by_cases h3 : f.num = 3
  · have e1 : stepT m f = (m.1 && ((0 : Int) == (f.kind : Int)), putN 3 f m.2) := by apply Option.some.inj; rw [e]; simp [stepR, h3]
    rw [e1]
    refine ⟨?_, fun k hk1 hk2 => put_last 3 f h3 m.2 k⟩
    show (m.1 && _) = _; congr 1; simp [ok5, okK, h3]; rw [Bool.eq_iff_iff]; simp; omega
  by_cases h4 : f.num = 4
  · have e1 : stepT m f = (m.1 && ((0 : Int) == (f.kind : Int)), putN 4 f m.2) := by apply Option.some.inj; rw [e]; simp [stepR, h4]
    rw [e1]
    refine ⟨?_, fun k hk1 hk2 => put_last 4 f h4 m.2 k⟩
    show (m.1 && _) = _; congr 1; simp [ok5, okK, h4]; rw [Bool.eq_iff_iff]; simp; omega
  by_cases h5 : f.num = 5
  · have e1 : stepT m f = (m.1 && ((2 : Int) == (f.kind : Int)), putN 5 f m.2) := by apply Option.some.inj; rw [e]; simp [stepR, h5]
    rw [e1]
    refine ⟨?_, fun k hk1 hk2 => put_last 5 f h5 m.2 k⟩
    show (m.1 && _) = _; congr 1; simp [ok5, okK, h5]; rw [Bool.eq_iff_iff]; simp; omega
  have e1 : stepT m f = m := by apply Option.some.inj; rw [e]; simp [stepR, h1, h2, h3, h4, h5]
  rw [e1]
  refine ⟨by simp [ok5, okK, h1, h2, h3, h4, h5], fun k hk1 hk2 => ?_⟩
  rw [if_neg (by omega)]
theorem fold_spec : ∀ (l : List NW.Fld) (m : LSt), (l.foldl stepT m).1 = (m.1 && l.all ok5) ∧ ∀ k, 1 ≤ k → k ≤ 5 → lastN k (l.foldl stepT m).2 = lastF k l (lastN k m.2)
  | [], m => ⟨by simp, fun k _ _ => rfl⟩
  | f :: l, m => by
    obtain ⟨h1, h2⟩ := fold_spec l (stepT m f)
    obtain ⟨h3, h4⟩ := stepT_spec m f
    refine ⟨?_, fun k hk1 hk2 => ?_⟩
    · show (l.foldl stepT (stepT m f)).1 = _
      rw [h1, h3, List.all_cons, Bool.and_assoc]
    · show lastN k (l.foldl stepT (stepT m f)).2 = lastF k l (if f.num = k then f else lastN k m.2)
      rw [h2 k hk1 hk2, h4 k hk1 hk2]
theorem all5 (l : List NW.Fld) : l.all ok5 = (l.all (okK 1 0) && l.all (okK 2 2) && l.all (okK 3 0) && l.all (okK 4 0) && l.all (okK 5 2)) := by
  induction l with
  | nil => rfl
  | cons f l ih =>
    simp only [List.all_cons, ih, ok5]
    cases okK 1 0 f <;> cases okK 2 2 f <;> cases okK 3 0 f <;> cases okK 4 0 f <;> cases okK 5 2 f <;> simp
theorem resR_resP (s : List UInt8) : resR s = resP s := by
  unfold resR resP
  cases NW.parse s with
  | none => rfl
  | some l =>
    show resG (takeG stepR l (true, [])).1 = if okP l = true ∧ rightB (rsP l) = true then some (rsP l) else none
    rw [takeG_fold]
    obtain ⟨h1, h2⟩ := fold_spec l (true, [])
    have hn : ∀ k, lastN k ([] : List (Nat × NW.Fld)) = zF := fun k => rfl
    unfold resG
    by_cases ha : l.all ok5 = true
    · have hb := ha
      rw [all5] at hb
      simp only [Bool.and_eq_true] at hb
      obtain ⟨⟨⟨⟨a1, a2⟩, a3⟩, a4⟩, a5⟩ := hb
      have e1 : (l.foldl stepT (true, [])).1 = true := by rw [h1, ha]; rfl
      have v1 : lastN 1 (l.foldl stepT (true, [])).2 = (lastP 1 0 l zF).1 := by rw [h2 1 (by decide) (by decide), lastP_val 1 0 l zF a1]; rfl
      have v2 : lastN 2 (l.foldl stepT (true, [])).2 = (lastP 2 2 l zF).1 := by rw [h2 2 (by decide) (by decide), lastP_val 2 2 l zF a2]; rfl
      have v3 : lastN 3 (l.foldl stepT (true, [])).2 = (lastP 3 0 l zF).1 := by rw [h2 3 (by decide) (by decide), lastP_val 3 0 l zF a3]; rfl
      have v4 : lastN 4 (l.foldl stepT (true, [])).2 = (lastP 4 0 l zF).1 := by rw [h2 4 (by decide) (by decide), lastP_val 4 0 l zF a4]; rfl
      have v5 : lastN 5 (l.foldl stepT (true, [])).2 = (lastP 5 2 l zF).1 := by rw [h2 5 (by decide) (by decide), lastP_val 5 2 l zF a5]; rfl
      have er : rsOf (l.foldl stepT (true, [])).2 = rsP l := by unfold rsOf rsP; rw [v1, v2, v3, v4, v5]
      rw [er, e1, v1, v4]
      have eo : okP l = (decide ((lastP 4 0 l zF).1.n ≤ 1) && decide ((lastP 1 0 l zF).1.n ≤ 5)) := by unfold okP; rw [lastP_ok, lastP_ok, lastP_ok, lastP_ok, lastP_ok, a1, a2, a3, a4, a5]; rfl
      rw [eo]
      by_cases hc : (lastP 4 0 l zF).1.n ≤ 1 <;> by_cases hd : (lastP 1 0 l zF).1.n ≤ 5 <;> by_cases hr : rightB (rsP l) = true <;> simp [hc, hd, hr]
    · have e1 : ¬ (l.foldl stepT (true, [])).1 = true := by rw [h1]; simpa using ha
      have eo : okP l = false := by
        unfold okP
        rw [lastP_ok, lastP_ok, lastP_ok, lastP_ok, lastP_ok, ← all5]
        simp only [Bool.not_eq_true] at ha
        rw [ha]; rfl
      rw [if_neg (fun h => e1 h.1), if_neg (fun h => by rw [eo] at h; cases h.1)]
theorem lastP_out (P : NW.Fld → Prop) (num kind : Nat) : ∀ (l : List NW.Fld) (out : NW.Fld), P out → (∀ f ∈ l, P f) → P (lastP num kind l out).1
  | [], out, h, _ => h
  | f :: l, out, h, hl => by
    unfold lastP
    split
    · split
      · exact lastP_out P num kind l f (hl f (by simp)) fun g hg => hl g (by simp [hg])
      · exact h
    · exact lastP_out P num kind l out h fun g hg => hl g (by simp [hg])
theorem rGet_some (s : List UInt8) (hs : s.length ≤ 1099511627776) {l : List NW.Fld} (hl : NW.parse s = some l) : Ctr Tryd.prog [] 50 [] [vv (.string (B s))] (fun os v => os = [] ∧ v = resV (if okP l = true ∧ rightB (rsP l) = true then some (rsP l) else none)) := by
  have hll : l.length ≤ 1099511627776 := Nat.le_trans (parse_len hl) hs
  have hp := rParse_ctr s hs
  rw [hl] at hp
  simp only [rparsedO, rparsedV] at hp
  have l1 := last_ctr l hll 1 0
  have l2 := last_ctr l hll 2 2
  have l3 := last_ctr l hll 3 0
  have l4 := last_ctr l hll 4 0
  have l5 := last_ctr l hll 5 2
  have hn2 : (lastP 2 2 l zF).1.s.length ≤ s.length := lastP_out (fun f => f.s.length ≤ s.length) 2 2 l zF (Nat.zero_le _) fun f hf => parse_slen hl f hf
  have hr := rright_any (rsP l) (by show (lastP 2 2 l zF).1.s.length ≤ _; omega)
  unfold rsP at hr ⊢
  unfold okP
  generalize lastP 1 0 l zF = p1 at *
  generalize lastP 2 2 l zF = p2 at *
  generalize lastP 3 0 l zF = p3 at *
  generalize lastP 4 0 l zF = p4 at *
  generalize lastP 5 2 l zF = p5 at *
  obtain ⟨⟨m1, k1, a1, b1⟩, o1⟩ := p1
  obtain ⟨⟨m2, k2, a2, b2⟩, o2⟩ := p2
  obtain ⟨⟨m3, k3, a3, b3⟩, o3⟩ := p3
  obtain ⟨⟨m4, k4, a4, b4⟩, o4⟩ := p4
  obtain ⟨⟨m5, k5, a5, b5⟩, o5⟩ := p5
  simp only [fldV] at l1 l2 l3 l4 l5 hr hn2 ⊢
  refine Ctr.less ?_
  by_cases ho : (o1 && o2 && o3 && o4 && o5 && decide (a4 ≤ 1) && decide (a1 ≤ 5)) = true
  · simp only [Bool.and_eq_true, decide_eq_true_eq] at ho
    obtain ⟨⟨⟨⟨⟨⟨rfl, rfl⟩, rfl⟩, rfl⟩, rfl⟩, h4⟩, h1⟩ := ho
    have d4 : decide ((1 : Int) < (a4 : Int)) = false := by simp; omega
    have d1 : decide ((5 : Int) < (a1 : Int)) = false := by simp; omega
    have hw : IntKind.i64.wrap (a1 : Int) = (a1 : Int) := wI64 (by omega) (by omega)
    by_cases hR : rightB ⟨(a1 : Int), b2, a3, ((a4 : Int) == 1), b5⟩ = true
    · rw [if_pos ⟨by simp [h4, h1], hR⟩]
      simp only [hR] at hr
      intro X0 hP0 hG0 N0 hN0
      refine CallVC.inline (f := 50) (by rw [hP0]; exact Tryd.func50) rfl Tryd.ntmps50 rfl (by simp) ?_
      intro X K hU hnt hbl hK
      have hP : X.P = Tryd.prog := hU.P.trans hP0
      have hG := hG0.under hU
      have hT := Ty.T50 hP
      simp only [GA, ↓GB, GX, simprocAttr] at hbl ⊢
      repeat' (first
        | (refine SX.seqK ?_; intro N hN)
        | ((first | (refine SX.ops ?_)); simp only [GA, ↓GB, GX, simprocAttr, hnt, hT, d4, d1, hw])
        | ((first | refine SX.skip ?_ | refine SX.exit ?_ | refine SX.label ?_ | refine SX.ret ?_); try simp only [GA, ↓GB, GX, simprocAttr])
        | (refine hN _ ?_; clear hN N)
        | ((first | refine hK _ _ (FinI.ret3 ?_) | refine hK _ _ (FinI.nrm3 ?_)); simp only [GA, ↓GB, GX, simprocAttr, finP_s, hnt, hT, d4, d1, hw]; refine Done.out ?_)
        | ((first | refine SX.cond rfl (fun hb => ?_) (fun hb => ?_) | (refine bif2.mk (fun hb => ?_) (fun hb => ?_) <;> (try simp only [hb, GA, ↓GB, GX, simprocAttr, hnt, hT, d4, d1, hw]))) <;> ((first | cases hb | (simp only [HBs] at hb) | skip) <;> (first | (exfalso; omega) | skip)))
        | ((first | (refine Ctr.use (hp) hP hG [] ?_ rfl rfl ?_; (focus (refine LeR.of rfl trivial ?_ ?_ ?_ ?_ ?_ <;> first | decide | (simp only [GA, ↓GB, GX, simprocAttr, GDs]; done))); intro os' s hR; obtain ⟨rfl, rfl⟩ := hR) | (refine Ctr.use (l1) hP ?_ [1] ?_ rfl rfl ?_; (focus (intro p hp; cases hp)); (focus (refine LeR.of rfl trivial ?_ ?_ ?_ ?_ ?_ <;> first | decide | (simp only [GA, ↓GB, GX, simprocAttr, GDs]; done))); intro os' s hR; obtain ⟨rfl, rfl⟩ := hR) | (refine Ctr.use (l2) hP ?_ [1] ?_ rfl rfl ?_; (focus (intro p hp; cases hp)); (focus (refine LeR.of rfl trivial ?_ ?_ ?_ ?_ ?_ <;> first | decide | (simp only [GA, ↓GB, GX, simprocAttr, GDs]; done))); intro os' s hR; obtain ⟨rfl, rfl⟩ := hR) | (refine Ctr.use (l3) hP ?_ [1] ?_ rfl rfl ?_; (focus (intro p hp; cases hp)); (focus (refine LeR.of rfl trivial ?_ ?_ ?_ ?_ ?_ <;> first | decide | (simp only [GA, ↓GB, GX, simprocAttr, GDs]; done))); intro os' s hR; obtain ⟨rfl, rfl⟩ := hR) | (refine Ctr.use (l4) hP ?_ [1] ?_ rfl rfl ?_; (focus (intro p hp; cases hp)); (focus (refine LeR.of rfl trivial ?_ ?_ ?_ ?_ ?_ <;> first | decide | (simp only [GA, ↓GB, GX, simprocAttr, GDs]; done))); intro os' s hR; obtain ⟨rfl, rfl⟩ := hR) | (refine Ctr.use (l5) hP ?_ [1] ?_ rfl rfl ?_; (focus (intro p hp; cases hp)); (focus (refine LeR.of rfl trivial ?_ ?_ ?_ ?_ ?_ <;> first | decide | (simp only [GA, ↓GB, GX, simprocAttr, GDs]; done))); intro os' s hR; obtain ⟨rfl, rfl⟩ := hR) | (refine CallVC.pv hP (hr) rfl ?_) | (refine CallQ.pv hP (hr) rfl ?_)); simp only [GA, ↓GB, GX, simprocAttr, hnt, hT, d4, d1, hw])
        | (refine and_mk ?_ ?_; (focus first | decide | omega | rfl | assumption | (simp only [LBs]; omega) | (simp; done)))
        | (refine And.intro ?_ ?_))
      all_goals (try refine Done.mk ?_)
      all_goals ((refine hN0 _ _ ⟨[], _, _, ?_, ?_, ?_, ⟨rfl, rfl⟩⟩; (focus exact LeR.of rfl trivial (by simp only [GA, ↓GB, GX, simprocAttr, GDs]) (by decide) rfl rfl rfl); rotate_left; (focus rfl)); rfl)
    · have hR : rightB ⟨(a1 : Int), b2, a3, ((a4 : Int) == 1), b5⟩ = false := by simpa using hR
      rw [if_neg (fun h => by have := h.2.symm.trans hR; cases this)]
      simp only [hR] at hr
      intro X0 hP0 hG0 N0 hN0
      refine CallVC.inline (f := 50) (by rw [hP0]; exact Tryd.func50) rfl Tryd.ntmps50 rfl (by simp) ?_
      intro X K hU hnt hbl hK
      have hP : X.P = Tryd.prog := hU.P.trans hP0
      have hG := hG0.under hU
      have hT := Ty.T50 hP
      simp only [GA, ↓GB, GX, simprocAttr] at hbl ⊢
      repeat' (first
        | (refine SX.seqK ?_; intro N hN)
        | ((first | (refine SX.ops ?_)); simp only [GA, ↓GB, GX, simprocAttr, hnt, hT, d4, d1, hw])
        | ((first | refine SX.skip ?_ | refine SX.exit ?_ | refine SX.label ?_ | refine SX.ret ?_); try simp only [GA, ↓GB, GX, simprocAttr])
        | (refine hN _ ?_; clear hN N)
        | ((first | refine hK _ _ (FinI.ret3 ?_) | refine hK _ _ (FinI.nrm3 ?_)); simp only [GA, ↓GB, GX, simprocAttr, finP_s, hnt, hT, d4, d1, hw]; refine Done.out ?_)
        | ((first | refine SX.cond rfl (fun hb => ?_) (fun hb => ?_) | (refine bif2.mk (fun hb => ?_) (fun hb => ?_) <;> (try simp only [hb, GA, ↓GB, GX, simprocAttr, hnt, hT, d4, d1, hw]))) <;> ((first | cases hb | (simp only [HBs] at hb) | skip) <;> (first | (exfalso; omega) | skip)))
        | ((first | (refine Ctr.use (hp) hP hG [] ?_ rfl rfl ?_; (focus (refine LeR.of rfl trivial ?_ ?_ ?_ ?_ ?_ <;> first | decide | (simp only [GA, ↓GB, GX, simprocAttr, GDs]; done))); intro os' s hR; obtain ⟨rfl, rfl⟩ := hR) | (refine Ctr.use (l1) hP ?_ [1] ?_ rfl rfl ?_; (focus (intro p hp; cases hp)); (focus (refine LeR.of rfl trivial ?_ ?_ ?_ ?_ ?_ <;> first | decide | (simp only [GA, ↓GB, GX, simprocAttr, GDs]; done))); intro os' s hR; obtain ⟨rfl, rfl⟩ := hR) | (refine Ctr.use (l2) hP ?_ [1] ?_ rfl rfl ?_; (focus (intro p hp; cases hp)); (focus (refine LeR.of rfl trivial ?_ ?_ ?_ ?_ ?_ <;> first | decide | (simp only [GA, ↓GB, GX, simprocAttr, GDs]; done))); intro os' s hR; obtain ⟨rfl, rfl⟩ := hR) | (refine Ctr.use (l3) hP ?_ [1] ?_ rfl rfl ?_; (focus (intro p hp; cases hp)); (focus (refine LeR.of rfl trivial ?_ ?_ ?_ ?_ ?_ <;> first | decide | (simp only [GA, ↓GB, GX, simprocAttr, GDs]; done))); intro os' s hR; obtain ⟨rfl, rfl⟩ := hR) | (refine Ctr.use (l4) hP ?_ [1] ?_ rfl rfl ?_; (focus (intro p hp; cases hp)); (focus (refine LeR.of rfl trivial ?_ ?_ ?_ ?_ ?_ <;> first | decide | (simp only [GA, ↓GB, GX, simprocAttr, GDs]; done))); intro os' s hR; obtain ⟨rfl, rfl⟩ := hR) | (refine Ctr.use (l5) hP ?_ [1] ?_ rfl rfl ?_; (focus (intro p hp; cases hp)); (focus (refine LeR.of rfl trivial ?_ ?_ ?_ ?_ ?_ <;> first | decide | (simp only [GA, ↓GB, GX, simprocAttr, GDs]; done))); intro os' s hR; obtain ⟨rfl, rfl⟩ := hR) | (refine CallVC.pv hP (hr) rfl ?_) | (refine CallQ.pv hP (hr) rfl ?_)); simp only [GA, ↓GB, GX, simprocAttr, hnt, hT, d4, d1, hw])
        | (refine and_mk ?_ ?_; (focus first | decide | omega | rfl | assumption | (simp only [LBs]; omega) | (simp; done)))
        | (refine And.intro ?_ ?_))
      all_goals (try refine Done.mk ?_)
      all_goals ((refine hN0 _ _ ⟨[], _, _, ?_, ?_, ?_, ⟨rfl, rfl⟩⟩; (focus exact LeR.of rfl trivial (by simp only [GA, ↓GB, GX, simprocAttr, GDs]) (by decide) rfl rfl rfl); rotate_left; (focus rfl)); rfl)
  · rw [if_neg (fun h => ho h.1)]
    intro X0 hP0 hG0 N0 hN0
    refine CallVC.inline (f := 50) (by rw [hP0]; exact Tryd.func50) rfl Tryd.ntmps50 rfl (by simp) ?_
    intro X K hU hnt hbl hK
    have hP : X.P = Tryd.prog := hU.P.trans hP0
    have hG := hG0.under hU
    have hT := Ty.T50 hP
    simp only [GA, ↓GB, GX, simprocAttr] at hbl ⊢
    repeat' (first
      | (refine SX.seqK ?_; intro N hN)
      | ((first | (refine SX.ops ?_)); simp only [GA, ↓GB, GX, simprocAttr, hnt, hT])
      | ((first | refine SX.skip ?_ | refine SX.exit ?_ | refine SX.label ?_ | refine SX.ret ?_); try simp only [GA, ↓GB, GX, simprocAttr])
      | (refine hN _ ?_; clear hN N)
      | ((first | refine hK _ _ (FinI.ret3 ?_) | refine hK _ _ (FinI.nrm3 ?_)); simp only [GA, ↓GB, GX, simprocAttr, finP_s, hnt, hT]; refine Done.out ?_)
      | ((first | refine SX.cond rfl (fun hb => ?_) (fun hb => ?_) | (refine bif2.mk (fun hb => ?_) (fun hb => ?_) <;> (try simp only [hb, GA, ↓GB, GX, simprocAttr, hnt, hT]))) <;> ((first | cases hb | (simp only [HBs] at hb) | skip) <;> (first | (exfalso; omega) | skip)))
      | ((first | (refine Ctr.use (hp) hP hG [] ?_ rfl rfl ?_; (focus (refine LeR.of rfl trivial ?_ ?_ ?_ ?_ ?_ <;> first | decide | (simp only [GA, ↓GB, GX, simprocAttr, GDs]; done))); intro os' s hR; obtain ⟨rfl, rfl⟩ := hR) | (refine Ctr.use (l1) hP ?_ [1] ?_ rfl rfl ?_; (focus (intro p hp; cases hp)); (focus (refine LeR.of rfl trivial ?_ ?_ ?_ ?_ ?_ <;> first | decide | (simp only [GA, ↓GB, GX, simprocAttr, GDs]; done))); intro os' s hR; obtain ⟨rfl, rfl⟩ := hR) | (refine Ctr.use (l2) hP ?_ [1] ?_ rfl rfl ?_; (focus (intro p hp; cases hp)); (focus (refine LeR.of rfl trivial ?_ ?_ ?_ ?_ ?_ <;> first | decide | (simp only [GA, ↓GB, GX, simprocAttr, GDs]; done))); intro os' s hR; obtain ⟨rfl, rfl⟩ := hR) | (refine Ctr.use (l3) hP ?_ [1] ?_ rfl rfl ?_; (focus (intro p hp; cases hp)); (focus (refine LeR.of rfl trivial ?_ ?_ ?_ ?_ ?_ <;> first | decide | (simp only [GA, ↓GB, GX, simprocAttr, GDs]; done))); intro os' s hR; obtain ⟨rfl, rfl⟩ := hR) | (refine Ctr.use (l4) hP ?_ [1] ?_ rfl rfl ?_; (focus (intro p hp; cases hp)); (focus (refine LeR.of rfl trivial ?_ ?_ ?_ ?_ ?_ <;> first | decide | (simp only [GA, ↓GB, GX, simprocAttr, GDs]; done))); intro os' s hR; obtain ⟨rfl, rfl⟩ := hR) | (refine Ctr.use (l5) hP ?_ [1] ?_ rfl rfl ?_; (focus (intro p hp; cases hp)); (focus (refine LeR.of rfl trivial ?_ ?_ ?_ ?_ ?_ <;> first | decide | (simp only [GA, ↓GB, GX, simprocAttr, GDs]; done))); intro os' s hR; obtain ⟨rfl, rfl⟩ := hR)); simp only [GA, ↓GB, GX, simprocAttr, hnt, hT])
      | (refine and_mk ?_ ?_; (focus first | decide | omega | rfl | assumption | (simp only [LBs]; omega) | (simp; done)))
      | (refine And.intro ?_ ?_))
    all_goals (try refine Done.mk ?_)
    all_goals first | ((refine hN0 _ _ ⟨[], _, _, ?_, ?_, ?_, ⟨rfl, rfl⟩⟩; (focus exact LeR.of rfl trivial (by simp only [GA, ↓GB, GX, simprocAttr, GDs]) (by decide) rfl rfl rfl); rotate_left; (focus rfl)); rfl) | skip
    · exfalso
      apply ho
      simp_all
      omega
theorem rGet_ctr (s : List UInt8) (hs : s.length ≤ 1099511627776) : Ctr Tryd.prog [] 50 [] [vv (.string (B s))] (fun os v => os = [] ∧ v = resV (resP s)) := by
  unfold resP
  cases hl : NW.parse s with
  | none => exact rGet_none s hs hl
  | some l => exact rGet_some s hs hl
end Go.Proofs.YtbdacbcpniegiaaDoor.Q
namespace Go.Sx
open Go Go.RowKit
def MarkH (e : TypeId) (l : List UInt8) (v : Value) (fp : List Nat) (w : World) : Prop :=
  ∃ g cap cur, v = .slice (some ⟨g, 0, none⟩) l.length cap ∧ fp = [g] ∧ w.heap[g]? = some (.cells cur e (cur.size, cur.size + 1)) ∧ l.length ≤ cur.size ∧ cur.toList.take l.length = bcells l
theorem MarkH.local {e : TypeId} {l : List UInt8} : Local (MarkH e l) := fun v fp w w' _ hk ⟨g, cap, cur, h1, h2, h3, h4⟩ => ⟨g, cap, cur, h1, h2, by rw [hk g (by simp [h2])]; exact h3, h4⟩
@[reducible] def markB (e : TypeId) (l : List UInt8) : LO := .ext (MarkH e l)
section
variable {X : Ctx} {c : Cfg} {N : Cfg → Prop} {d : Option Tmp} {ty : TypeId} {pos : String} {af : Array Edge} {g : Option (Nat × Bool)}
theorem VO.bytesOf {src dst e : TypeId} {x : Operand} (s : List UInt8) (hx : c.ev x = vv (.string (B s))) (hs : X.P.underlying src = some .string) (hd : X.P.underlying dst = some (.slice e)) (he : X.P.underlying e = some (.int .u8))
    (h : nxt X d N { c with loc := c.loc ++ [markB e s] } (.one (.c (.row c.loc.length)))) : VO X ⟨d, .convert src dst x, ty, pos, af, g⟩ c N :=
  .of_value fun ρ σ a w hr => by
    have e1 := hr.ev x
    rw [hx] at e1
    have e1 : a.eval x = .string (B s) := e1
    have hrun := run_bytes_of_string (P := X.P) w src dst e (B s) hs hd he
    have hge := grownCap_ge w (B s).size 0 e
    have hbs : (B s).size = s.length := rfl
    generalize hk : grownCap w (B s).size 0 e = cap at hrun hge
    have hc : (bytesRow (B s) cap).toList = bcells s ++ List.replicate (cap - s.length) (.int .u8 0) := by simp [bytesRow, bcells, B, ByteArray.size]
    have hR := hr.push (w' := w.drew.alloc (.cells (bytesRow (B s) cap) e ((bytesRow (B s) cap).size, (bytesRow (B s) cap).size + 1))) (o := markB e s) (fp := [w.heap.size]) (v := .slice (some ⟨w.heap.size, 0, none⟩) s.length cap)
      ⟨rfl, rfl, rfl, by simp, fun q hq => Below.heap_alloc w.drew _ q hq⟩ (fun q hq => by simp at hq; subst hq; simp) (by simp)
      ⟨⟨w.heap.size, cap, bytesRow (B s) cap, rfl, rfl, by simp [World.alloc, World.drew, -World.alloc_eq, -World.drew_eq], by rw [← Array.length_toList, hc]; simp [bcells], by rw [hc, List.take_left' (by simp [bcells])]⟩, MarkH.local⟩ rfl
    refine ⟨.slice (some ⟨w.heap.size, 0, none⟩) s.length cap, _, _, _, _, .one (.c (.row c.loc.length)), ?_, hR, ?_, h.1, h.2⟩
    · simp only [execOp, e1, Sem.run_bind, hrun, Result.andThen, Sem.run_pure]; rfl
    · show (σ ++ [_])[c.loc.length]? = _
      rw [← hr.lenS]; simp
theorem Rel.mark {ρ : List (List Nat)} {σ : List Value} {a : Act} {w : World} (h : Rel X c ρ σ a w) {i : Nat} {e : TypeId} {l : List UInt8} {v : Value} (hi : c.loc[i]? = some (markB e l)) (hv : σ[i]? = some v) : ∃ fp, ρ[i]? = some fp ∧ MarkH e l v fp w := by
  obtain ⟨fp, hfp⟩ := h.locAt hi
  exact ⟨fp, hfp, (h.loc i _ fp _ hi hfp hv).1⟩
theorem PO.lenMark {t e e' : TypeId} {x : Operand} {i : Nat} {l : List UInt8} (hx : c.ev x = .one (.c (.row i))) (hi : c.loc[i]? = some (markB e l)) (ht : X.P.underlying t = some (.slice e')) :
    PO X ⟨d, .call { callee := .builtin .len, args := #[x], argTypes := #[t] }, ty, pos, af, g⟩ c (vv (.int .i64 l.length)) := fun ρ σ a w hr => by
  have ex := hr.ev x
  rw [hx] at ex
  have ex : σ[i]? = some (a.eval x) := ex
  obtain ⟨fp, -, gg, cap, cur, e1, -⟩ := hr.mark hi ex
  exact ⟨.int .i64 l.length, by simp [execOp, e1, resolve, invoke, builtin, Builtin.len_, run_underlying ht, goInt], rfl⟩
theorem PO.indexMark {t e e' : TypeId} {x i : Operand} {r : Nat} {l : List UInt8} {k : IntKind} {j : Int} (hx : c.ev x = .one (.c (.row r))) (hr0 : c.loc[r]? = some (markB e' l)) (hi : c.ev i = vv (.int k j)) (ht : elemSz X.P t = some (e, 1)) (h0 : 0 ≤ j) (h1 : j < l.length) :
    PO X ⟨d, .indexAddr t x i, ty, pos, af, g⟩ c (.one (.c (.ri r j.toNat))) := fun ρ σ a w hr => by
  have e1 := hr.ev x
  rw [hx] at e1
  have e1 : σ[r]? = some (a.eval x) := e1
  have e2 := hr.ev i
  rw [hi] at e2
  have e2 : a.eval i = .int k j := e2
  obtain ⟨fp, -, gg, cap, cur, e3, -⟩ := hr.mark hr0 e1
  unfold elemSz at ht
  split at ht
  · rename_i e' hu
    cases hz : szOf X.P e' with
    | none => simp [hz] at ht
    | some q =>
      simp [hz] at ht
      obtain ⟨rfl, rfl⟩ := ht
      refine ⟨.pointer (some ((⟨gg, 0, none⟩ : Addr).add (j.toNat * 1))), by simp [execOp, e3, e2, Instr.indexAt, asIntOf, run_underlying hu, sizeOf_run hz, h0, h1, Result.andThen], ⟨gg, 0, none⟩, l.length, cap, ?_, by rw [Nat.mul_one]⟩
      rw [e1, e3]
  · simp at ht
theorem PO.loadMark {t e : TypeId} {x : Operand} {r k : Nat} {l : List UInt8} (hx : c.ev x = .one (.c (.ri r k))) (hr0 : c.loc[r]? = some (markB e l)) (ht : aggOf X.P t = some false) (hk : k < l.length) :
    PO X ⟨d, .load t x, ty, pos, af, g⟩ c (vv (.int .u8 (l[k]).toNat)) := fun ρ σ a w hr => by
  have e1 := hr.ev x
  rw [hx] at e1
  obtain ⟨ad, n', m, hs, e1⟩ := e1
  obtain ⟨fp, -, gg, cap, cur, e3, -, hw, hl, htk⟩ := hr.mark hr0 hs
  cases e3
  have hcell : w.cell? ((⟨gg, 0, none⟩ : Addr).add k) = some (.int .u8 (l[k]).toNat) := by
    rw [add_add]
    have h2 : (cur.toList.take l.length)[k]? = some (.int .u8 (l[k]).toNat) := by rw [htk]; simp [bcells, hk]
    rw [List.getElem?_take_of_lt hk, Array.getElem?_toList] at h2
    simp [World.cell?, hw, h2]
  exact ⟨.int .u8 (l[k]).toNat, by simp [execOp, e1, Instr.loadAt, Instr.sureAddr, loadVar, isAgg_run ht, hcell], rfl⟩
theorem PO.markString {src dst e e' : TypeId} {x : Operand} {i : Nat} {l : List UInt8} (hx : c.ev x = .one (.c (.row i))) (hi : c.loc[i]? = some (markB e' l)) (hs : X.P.underlying src = some (.slice e)) (he : X.P.underlying e = some (.int .u8)) (hd : X.P.underlying dst = some .string) :
    PO X ⟨d, .convert src dst x, ty, pos, af, g⟩ c (vv (.string (B l))) := fun ρ σ a w hr => by
  have ex := hr.ev x
  rw [hx] at ex
  have ex : σ[i]? = some (a.eval x) := ex
  obtain ⟨fp, -, gg, cap, cur, e1, -, hw, hl, htk⟩ := hr.mark hi ex
  refine ⟨_, ?_, rfl⟩
  simp only [execOp, e1, Sem.run_bind]
  rw [run_convert_bytes_back w src dst e ⟨gg, 0, none⟩ cap l hs he hd (fun j hj => by
    rw [add_add]
    have h2 : (cur.toList.take l.length)[j]? = some (.int .u8 (l[j]).toNat) := by rw [htk]; simp [bcells, hj]
    rw [List.getElem?_take_of_lt hj, Array.getElem?_toList] at h2
    simp [World.cell?, hw, h2])]
  rfl
theorem VO.storeMark {t e : TypeId} {x y : Operand} {i k : Nat} {l : List UInt8} {u : UInt8} (hx : c.ev x = .one (.c (.ri i k))) (hy : c.ev y = vv (.int .u8 u.toNat)) (hz : szOf X.P t = some 1) (hi : c.loc[i]? = some (markB e l)) (hk : k < l.length)
    (h : N { c with loc := c.loc.set i (markB e (l.set k u)) }) : VO X ⟨none, .store t x y, ty, pos, af, g⟩ c N :=
  .of_skip rfl fun ρ σ a w hr => by
    have e1 := hr.ev x
    rw [hx] at e1
    obtain ⟨ad, n', cap', hs, e1⟩ := e1
    have hv2 := hr.ev y
    rw [hy] at hv2
    have hv2 : a.eval y = .int .u8 u.toNat := hv2
    obtain ⟨fp, hfp, gg, cap, cur, e3, hfg, hw, hl, htk⟩ := hr.mark hi hs
    cases e3
    have hkc : k < cur.size := by omega
    have hadd : (⟨gg, 0, none⟩ : Addr).add k = ⟨gg, k, none⟩ := by rw [add_add]; simp
    have hcell : w.cell? ⟨gg, k, none⟩ = some cur[k] := by simp [World.cell?, hw, hkc]
    have hfro : w.frozen? ⟨gg, k, none⟩ = false := by simp [World.frozen?, hw]; omega
    have hst : (Go.store ⟨gg, k, none⟩ (.int .u8 u.toNat)).run X.P w = .ok () (w.setRow gg (cur.setIfInBounds k (.int .u8 u.toNat))) := by
      rw [run_store X.P w _ _ _ rfl, hcell]
      simp [hfro, setCell_eq_setRow w gg k cur e (cur.size, cur.size + 1) (.int .u8 u.toNat) hw]
    have heq : w.setRow gg (cur.setIfInBounds k (.int .u8 u.toNat)) = { w with heap := w.heap.setIfInBounds gg (.cells (cur.setIfInBounds k (.int .u8 u.toNat)) e (cur.size, cur.size + 1)) } := by
      simp only [World.setRow]
      congr 1
      apply Array.ext'
      apply List.ext_getElem?
      intro j
      simp only [Array.getElem?_toList, Array.getElem?_modify]
      by_cases ej : gg = j
      · subst ej
        rw [if_pos rfl, hw, Array.getElem?_setIfInBounds_self_of_lt (Array.getElem?_eq_some_iff.1 hw).1]
        rfl
      · rw [if_neg ej, Array.getElem?_setIfInBounds_ne (by omega)]
    have hset := setRow_heap w gg cur (cur.setIfInBounds k (.int .u8 u.toNat)) _ _ hw
    rw [heq] at hst hset
    have hR := hr.setObj (b := gg) (o := markB e (l.set k u)) (.cells (cur.setIfInBounds k (.int .u8 u.toNat)) e (cur.size, cur.size + 1)) (List.getElem?_eq_some_iff.1 hi).1 hfp (by rw [hfg]; simp) hs
      ⟨⟨gg, cap', cur.setIfInBounds k (.int .u8 u.toNat), by simp, hfg, by simpa using hset, by simpa using hl, by
        simp only [List.length_set, Array.toList_setIfInBounds, List.take_set, htk, bcells, List.map_set]⟩, MarkH.local⟩
    refine ⟨_, _, _, _, ?_, hR, h⟩
    simp only [execOp, Instr.storeAt, Instr.sureAddr, e1, storeVar, Sem.run_bind, Sem.run_pure, Result.andThen, sizeOf_run hz, hv2, hadd]
    simp [storeCells, hadd, hst, Value.cells, Addr.add]
end
section
variable {X : Ctx}
theorem q_sound {ops : Array Oper} {A : Act → World → Prop} {is : List Nat} {r : List Pl} {c c1 : Cfg} {ss : List SV} {L : Array Bool} {f : Nat} (hQF : QF X ops is c ss c1) (hp : planOK ops (.q is none :: r) L = true) (hL : L.size = ops.size)
    (hnext : ∀ ρ' σ' a' w', Rel X c1 ρ' σ' a' w' → planOK ops r (setL L (is ++ alL none)) = true → wpAny X.P .any ops (QN A) (cntP r + f) (setL L (is ++ alL none)) a' w') :
    ∀ ρ σ a w, Rel X c ρ σ a w → wpAny X.P .any ops (QN A) (cntP (.q is none :: r) + f) L a w := fun ρ σ a w hr => by
  simp only [planOK, Bool.and_eq_true] at hp
  have hq := hp.1
  simp only [qOK, Bool.and_eq_true] at hq
  obtain ⟨⟨⟨hlo, hin⟩, hq1⟩, hq2⟩ := hq
  have hq0 : (inOK ops L [] (is ++ alL none) && dataOK ops (is ++ alL none) && outOK ops L (is ++ alL none)) = true := by rw [hin, hq1, hq2]; rfl
  have hLun : ∀ i ∈ is ++ alL none, L.getD i true = false := fun i hi => by
    obtain ⟨k, hk⟩ := List.mem_iff_getElem?.1 hi
    exact (inOK_spec hin hk).1
  have hcl : ∀ j oj, ops[j]? = some oj → L.getD j false = true → ∀ e ∈ oj.after, Region.binds .any e = true → L.getD e.on false = true := fun j oj hj hl e he hbd => by
    have h1 := List.all_eq_true.1 hlo j (List.mem_range.2 (Array.getElem?_eq_some_iff.1 hj).1)
    simp only [hl, Bool.not_true, Bool.false_or, hj] at h1
    have h2 := Array.all_eq_true_iff_forall_mem.1 h1 e he
    simpa [hbd] using h2
  rw [show cntP (.q is none :: r) + f = (is ++ alL none).length + (cntP r + f) by simp only [cntP]; omega]
  have hR0 : Rel X ⟨[], c.loc⟩ ρ σ a w := ⟨fun t s he => by simp at he, hr.len, hr.lenS, hr.loc, hr.inj, hr.lt, hr.fresh, hr.low, hr.defers, hr.size, hr.one, hr.pin⟩
  exact set_sound (al := none) (l := []) (t := 0) (s := vv undef) hQF ⟨fun k hk => by cases hk⟩ hL hq0 (fun ρ' σ' a' w' hr' => hnext ρ' σ' a' w' hr' hp.2) _ L a w (cntU_all (fun i hi => getD_both (hLun i hi))) hL (fun _ _ _ => rfl) hcl (fun _ h => h) hR0
    (fun k i u h1 _ h3 => by rw [getD_both (hLun i (List.mem_append_left _ (List.mem_of_getElem? h1)))] at h3; cases h3)
    (fun t' u _ hu => hr.env t' u hu)
    (fun k e h3 => by rw [getD_both (hLun k (List.mem_append_right _ (by rw [e]; simp [alL])))] at h3; cases h3)
theorem SX.quiet2 {c c1 c2 : Cfg} {id : Nat} {l : List Oper} {K : Exit → Cfg → Prop} {is js : List Nat} {ss ss2 : List SV} {i : Nat} {o : Oper} (hm : X.P.follows .mixedOrders = true) (hB : planAll l [.q is none, .q js none, .s i] = true)
    (h1 : QF X l.toArray is c ss c1) (h2 : QF X l.toArray js c1 ss2 c2) (ho : l.toArray[i]? = some o) (hg : o.guard = none) (h : VO X o c2 (K .normal)) : SX X (.region id l.toArray true) c K := fun ρ σ a w hr => by
  simp only [planAll, Bool.and_eq_true, decide_eq_true_eq] at hB
  have hr' : Rel X c ρ σ a { w with drawn := w.drawn + 1 } := hr.below ⟨rfl, rfl, rfl, Nat.le_refl _, fun _ _ => rfl⟩
  have h3 : wpAny X.P .any l.toArray (QN fun a w => Post X K .normal a w) (cntP [.q is none, .q js none, .s i] + 0) (Array.replicate l.length false) a { w with drawn := w.drawn + 1 } := by
    refine q_sound h1 hB.2 (by simp) (fun ρ1 σ1 a1 w1 hr1 hp1 => ?_) ρ σ a _ hr'
    refine q_sound h2 hp1 (by rw [setL_size]; simp) (fun ρ2 σ2 a2 w2 hr2 hp2 => ?_) ρ1 σ1 a1 w1 hr1
    simp only [planOK, Bool.and_eq_true, decide_eq_true_eq] at hp2
    rw [show cntP [Pl.s i] + 0 = (cntP [] + 0) + 1 from rfl]
    refine wpAny_all hp2.1 (by simp) (fun j hj => ?_)
    have : j = i := by simpa using hj
    subst this
    refine wpOp_list ho ?_
    exact OX.cons hg h (fun c' hc => .nil hc) _ (fun c3 ρ3 σ3 a3 w3 hr3 hk => ⟨rfl, wpAny_done (by simpa [planOK, List.isEmpty_iff] using hp2.2) ⟨rfl, ⟨c3, ρ3, σ3, hr3, hk⟩⟩ _⟩) ρ2 σ2 a2 w2 hr2
  have h4 : (Code.region id l.toArray true).wp X.P (QN fun a w => Post X K .normal a w) a w := wp_region_any hm (by rw [hB.1.2] at h3; simpa using h3)
  exact Go.wp_mono h4 (fun e a w h => by obtain ⟨rfl, h⟩ := h; exact h)
theorem bits_xor8 (a b : UInt8) : bits .xor .u8 (a.toNat : Int) (b.toNat : Int) = ((a ^^^ b).toNat : Int) := by
  have h8 : IntKind.u8.bits = 8 := rfl
  have ha := a.toNat_lt
  have hb := b.toNat_lt
  have hc := (a ^^^ b).toNat_lt
  simp [bits, Op.intBits]
  rw [h8, Nat.mod_eq_of_lt ha, Nat.mod_eq_of_lt hb, ← UInt8.toNat_xor, IntKind.wrap_u8]
  omega
theorem PO.xor8 {c : Cfg} {d : Option Tmp} {ty : TypeId} {pos : String} {af : Array Edge} {g : Option (Nat × Bool)} {t t2 : TypeId} {x y : Operand} {a b : UInt8} (hx : c.ev x = vv (.int .u8 a.toNat)) (hy : c.ev y = vv (.int .u8 b.toNat)) : PO X ⟨d, .binOp .xor t x y t2, ty, pos, af, g⟩ c (vv (.int .u8 (a ^^^ b).toNat)) := by
  obtain ⟨r, h, e⟩ := PO.binOp (X := X) (c := c) (d := d) (ty := ty) (pos := pos) (af := af) (g := g) (op := .xor) (t := t) (t2 := t2) (x := x) (y := y) (u := .int .u8 a.toNat) (v := .int .u8 b.toNat) (N := fun r => r = .int .u8 (a ^^^ b).toNat) (by rw [hx]; rfl) (by rw [hy]; rfl) (show IntKind.u8 = IntKind.u8 ∧ Value.int .u8 (bits .xor .u8 a.toNat b.toNat) = Value.int .u8 (a ^^^ b).toNat from ⟨rfl, by rw [bits_xor8]⟩)
  rw [← e]; exact h
theorem PO.remI {c : Cfg} {d : Option Tmp} {ty : TypeId} {pos : String} {af : Array Edge} {g : Option (Nat × Bool)} {t t2 : TypeId} {x y : Operand} {q n : Nat} (hx : c.ev x = vv (.int .i64 q)) (hy : c.ev y = vv (.int .i64 n)) (hn : 0 < n) : PO X ⟨d, .binOp .rem t x y t2, ty, pos, af, g⟩ c (vv (.int .i64 ((q % n : Nat) : Int))) := by
  obtain ⟨r, h, e⟩ := PO.binOp (X := X) (c := c) (d := d) (ty := ty) (pos := pos) (af := af) (g := g) (op := .rem) (t := t) (t2 := t2) (x := x) (y := y) (u := .int .i64 q) (v := .int .i64 n) (N := fun r => r = .int .i64 ((q % n : Nat) : Int)) (by rw [hx]; rfl) (by rw [hy]; rfl) (show IntKind.i64 = IntKind.i64 ∧ (n : Int) ≠ 0 ∧ Value.int .i64 ((q : Int).tmod (n : Int)) = Value.int .i64 ((q % n : Nat) : Int) from ⟨rfl, by omega, rfl⟩)
  rw [← e]; exact h
end
end Go.Sx
namespace Go.Proofs.YtbdacbcpniegiaaDoor.Q
open Go Go.RowKit Go.Proofs Go.Sx
def bendAt (at_ : Int) (n : Nat) : Nat := ((if at_ < 0 then -(at_ + 1) else at_).toNat) % n
def bendL (s : List UInt8) (at_ : Int) (by_ : UInt8) : List UInt8 := if s = [] then [] else s.set (bendAt at_ s.length) (s.getD (bendAt at_ s.length) 0 ^^^ by_)
theorem moveE {X : Ctx} {c : Cfg} {d : Option Tmp} {ty : TypeId} {pos : String} {af : Array Edge} {g : Option (Nat × Bool)} {x : Operand} {s : SV} (h : c.ev x = s) : Go.Sx.PO X ⟨d, .move x, ty, pos, af, g⟩ c s := h ▸ .move
theorem qfCons {X : Ctx} {ops : Array Oper} {i : Nat} {is : List Nat} {o : Oper} {e e' : Cfg} {s : SV} {ss : List SV} (ho : ops[i]? = some o) (hd : dOk o.dst X.nt = true) (hg : o.guard = none) (h : Go.Sx.PO X o (e.only (o.looksAt ops)) s) (hq : QF X ops is (e.put o.dst s) ss e') : QF X ops (i :: is) e (s :: ss) e' := .cons i is o e s ss e' ho hd (.of_po hg h) hq
theorem bend6 {X : Ctx} (hP : X.P = Tryd.prog) (hnt : X.nt = 35) (hbl : X.base.length = 0) (s : List UInt8) (q : Nat) (by_ : UInt8) (hp : 0 < s.length) (K : Exit → Cfg → Prop)
    (h : SX X (sub [true, true, true, true, true] (Tryd.f48.body.getD .skip)) ⟨[(7, .one (.c (.row 0)))], [markB 5 (s.set (q % s.length) (s[q % s.length]'(Nat.mod_lt q hp) ^^^ by_))]⟩ K) :
    SX X (sub [true, true, true, true] (Tryd.f48.body.getD .skip)) ⟨[(7, .one (.c (.row 0))), (1, vv (.int .i64 q)), (2, vv (.int .u8 by_.toNat))], [markB 5 s]⟩ K := by
  have hm : X.P.follows .mixedOrders = true := by rw [hP]; kernel_rfl
  have u58 : X.P.underlying 58 = some (.slice 5) := by rw [hP]; kernel_rfl
  have u3 : elemSz X.P 58 = some (5, 1) := by rw [hP]; kernel_rfl
  have a5 : aggOf X.P 5 = some false := by rw [hP]; kernel_rfl
  have z5 : szOf X.P 5 = some 1 := by rw [hP]; kernel_rfl
  have hd : ∀ d : Nat, d < 35 → dOk (some d) X.nt = true := fun d hd => by rw [hnt]; simpa [dOk] using hd
  have hlt := Nat.mod_lt q hp
  simp only [sub, Tryd.f48, Option.getD_some] at h ⊢
  refine SX.seq ?_
  apply SX.quiet2 (is := [0, 1, 2, 3, 4, 5, 6, 7, 8, 9, 10, 11, 12, 13]) (js := [14]) (i := 15) hm (by kernel_rfl)
  case h1 =>
    apply qfCons rfl (hd _ (by decide)) rfl (moveE (s := .one (.c (.row 0))) rfl)
    apply qfCons rfl (hd _ (by decide)) rfl (moveE (s := vv (.int .i64 q)) rfl)
    apply qfCons rfl (hd _ (by decide)) rfl (moveE (s := .one (.c (.row 0))) rfl)
    apply qfCons rfl (hd _ (by decide)) rfl (PO.lenMark (i := 0) (l := s) (e := 5) rfl rfl u58)
    apply qfCons rfl (hd _ (by decide)) rfl (PO.remI (q := q) (n := s.length) rfl rfl hp)
    apply qfCons rfl (hd _ (by decide)) rfl (moveE (s := .one (.c (.row 0))) rfl)
    apply qfCons rfl (hd _ (by decide)) rfl (moveE (s := vv (.int .i64 q)) rfl)
    apply qfCons rfl (hd _ (by decide)) rfl (moveE (s := .one (.c (.row 0))) rfl)
    apply qfCons rfl (hd _ (by decide)) rfl (PO.lenMark (i := 0) (l := s) (e := 5) rfl rfl u58)
    apply qfCons rfl (hd _ (by decide)) rfl (PO.remI (q := q) (n := s.length) rfl rfl hp)
    apply qfCons rfl (hd _ (by decide)) rfl (show Go.Sx.PO X _ _ (.one (.c (.ri 0 (q % s.length)))) from PO.indexMark (r := 0) (l := s) (e' := 5) (j := ((q % s.length : Nat) : Int)) rfl rfl rfl u3 (by omega) (by omega))
    apply qfCons rfl (hd _ (by decide)) rfl (PO.loadMark (r := 0) (l := s) (e := 5) (k := q % s.length) rfl rfl a5 hlt)
    apply qfCons rfl (hd _ (by decide)) rfl (moveE (s := vv (.int .u8 by_.toNat)) rfl)
    apply qfCons rfl (hd _ (by decide)) rfl (PO.xor8 (a := s[q % s.length]) (b := by_) rfl rfl)
    exact QF.nil _
  case h2 =>
    apply qfCons rfl (hd _ (by decide)) rfl (show Go.Sx.PO X _ _ (.one (.c (.ri 0 (q % s.length)))) from PO.indexMark (r := 0) (l := s) (e' := 5) (j := ((q % s.length : Nat) : Int)) rfl rfl rfl u3 (by omega) (by omega))
    exact QF.nil _
  case ho => rfl
  case hg => rfl
  case h =>
    refine VO.storeMark (i := 0) (k := q % s.length) (l := s) (u := s[q % s.length] ^^^ by_) rfl rfl z5 rfl hlt ?_
    exact SX.select (d := ⟨[(7, .one (.c (.row 0)))], [markB 5 (s.set (q % s.length) (s[q % s.length]'(Nat.mod_lt q hp) ^^^ by_))]⟩) [0] (LeR.of (by rw [hbl]; decide) (by simp only [GA, ↓GB, GX, simprocAttr, GDs]) (by simp only [GA, ↓GB, GX, simprocAttr, GDs]) (by decide) (by simp only [GA, ↓GB, GX, simprocAttr, GDs]) (by simp only [GA, ↓GB, GX, simprocAttr, GDs]) (by simp only [GA, ↓GB, GX, simprocAttr, GDs])) h
theorem oxCons {X : Ctx} {ops : Array Oper} {o : Oper} {rest : List Oper} {c : Cfg} {s : SV} {N : Cfg → Prop} (hg : o.guard = none) (hd : dOk o.dst X.nt = true) (h : Go.Sx.PO X o c s) (hn : OX X ops rest (c.put o.dst s) N) : OX X ops (o :: rest) c N :=
  OX.cons (N' := fun c' => c' = c.put o.dst s) hg (VO.of_po h ⟨hd, rfl⟩) (fun c' e => e ▸ hn)
theorem assignE {X : Ctx} {c : Cfg} {d : Option Tmp} {ty : TypeId} {pos : String} {af : Array Edge} {g : Option (Nat × Bool)} {x : Operand} {s : SV} (h : c.ev x = s) : Go.Sx.PO X ⟨d, .assign x, ty, pos, af, g⟩ c s := h ▸ .assign
theorem bend7 {X : Ctx} (hP : X.P = Tryd.prog) (hnt : X.nt = 35) (hbl : X.base.length = 0) (l : List UInt8) (K : Exit → Cfg → Prop) (h : SX X .ret ⟨[(6, vv (.string (B l)))], [markB 5 l]⟩ K) :
    SX X (sub [true, true, true, true, true] (Tryd.f48.body.getD .skip)) ⟨[(7, .one (.c (.row 0)))], [markB 5 l]⟩ K := by
  have u9 : X.P.underlying 9 = some .string := by rw [hP]; kernel_rfl
  have u58 : X.P.underlying 58 = some (.slice 5) := by rw [hP]; kernel_rfl
  have u5 : X.P.underlying 5 = some (.int .u8) := by rw [hP]; kernel_rfl
  have hd : ∀ d : Nat, d < 35 → dOk (some d) X.nt = true := fun d hd => by rw [hnt]; simpa [dOk] using hd
  simp only [sub, Tryd.f48, Option.getD_some]
  refine SX.seq (SX.region ?_)
  apply oxCons rfl (hd _ (by decide)) (moveE (s := .one (.c (.row 0))) rfl)
  apply oxCons rfl (hd _ (by decide)) (PO.markString (i := 0) (l := l) (e := 5) (e' := 5) rfl rfl u58 u5 u9)
  apply oxCons rfl (hd _ (by decide)) (assignE (s := vv (.string (B l))) rfl)
  exact OX.nil (SX.select (d := ⟨[(6, vv (.string (B l)))], [markB 5 l]⟩) [0] (LeR.of (by rw [hbl]; decide) (by simp only [GA, ↓GB, GX, simprocAttr, GDs]) (by simp only [GA, ↓GB, GX, simprocAttr, GDs]) (by decide) (by simp only [GA, ↓GB, GX, simprocAttr, GDs]) (by simp only [GA, ↓GB, GX, simprocAttr, GDs]) (by simp only [GA, ↓GB, GX, simprocAttr, GDs])) h)
theorem bend_ctr (s : List UInt8) (hs : s.length ≤ 1099511627776) (at_ : Int) (h0 : -9223372036854775808 ≤ at_) (h1 : at_ ≤ 9223372036854775807) (by_ : UInt8) : Ctr Tryd.prog [] 48 [] [vv (.string (B s)), vv (.int .i64 at_), vv (.int .u8 by_.toNat)] (fun os v => os = [] ∧ v = vv (.string (B (bendL s at_ by_)))) := by
  refine Ctr.less ?_
  unfold bendL
  by_cases he : s = []
  · subst he
    rw [if_pos rfl]
    intro X0 hP0 hG0 N0 hN0
    refine CallVC.inline (f := 48) (by rw [hP0]; exact Tryd.func48) rfl Tryd.ntmps48 rfl (by simp) ?_
    intro X K hU hnt hbl hK
    have hP : X.P = Tryd.prog := hU.P.trans hP0
    have hG := hG0.under hU
    have hT := Ty.T48 hP
    simp only [GA, ↓GB, GX, simprocAttr] at hbl ⊢
    repeat' (first
      | (refine SX.seqK ?_; intro N hN)
      | ((first | (refine SX.ops ?_) | (refine SX.planT (id := 6) [.q [(0, [7]), (1, [1]), (2, [7]), (3, [20]), (4, [19, 21]), (5, [7]), (6, [1]), (7, [7]), (8, [25]), (9, [24, 26]), (10, [23, 27]), (11, [28]), (12, [2]), (13, [29, 30]), (14, [18, 22])] none, .s 15] ?_ ?_ ?_; (focus first | (rw [hP]; kernel_rfl) | (rw [hU1P, hP]; kernel_rfl)); (focus kernel_rfl))); simp only [GA, ↓GB, GX, simprocAttr, hnt, hT])
      | ((first | refine SX.skip ?_ | refine SX.exit ?_ | refine SX.label ?_ | refine SX.ret ?_); try simp only [GA, ↓GB, GX, simprocAttr])
      | (refine hN _ ?_; clear hN N)
      | ((first | refine hK _ _ (FinI.ret3 ?_) | refine hK _ _ (FinI.nrm3 ?_)); simp only [GA, ↓GB, GX, simprocAttr, finP_s, hnt, hT]; refine Done.out ?_)
      | ((first | refine SX.cond rfl (fun hb => ?_) (fun hb => ?_) | (refine bif2.mk (fun hb => ?_) (fun hb => ?_) <;> (try simp only [hb, GA, ↓GB, GX, simprocAttr, hnt, hT]))) <;> ((first | cases hb | (simp only [HBs] at hb) | skip) <;> (first | (exfalso; omega) | skip)))
      | (refine and_mk ?_ ?_; (focus first | decide | omega | rfl | assumption | (simp only [LBs]; omega) | (simp; done)))
      | (refine And.intro ?_ ?_))
    all_goals (try refine Done.mk ?_)
    all_goals ((refine hN0 _ _ ⟨[], _, _, ?_, ?_, ?_, ⟨rfl, rfl⟩⟩; (focus exact LeR.of rfl trivial (by simp only [GA, ↓GB, GX, simprocAttr, GDs]) (by decide) rfl rfl rfl); rotate_left; (focus rfl)); rfl)
  · rw [if_neg he]
    have hp : 0 < s.length := List.length_pos_iff.2 he
    by_cases hn : at_ < 0
    · obtain ⟨q, hq⟩ : ∃ q : Nat, -(at_ + 1) = q := ⟨(-(at_ + 1)).toNat, by omega⟩
      have hb0 : bendAt at_ s.length = q % s.length := by unfold bendAt; rw [if_pos hn, hq]; rfl
      have hlt := Nat.mod_lt q hp
      rw [hb0, List.getD_eq_getElem?_getD, List.getElem?_eq_getElem hlt, Option.getD_some]
      have g1 : IntKind.i64.wrap (at_ + 1) = at_ + 1 := wI64 (by omega) (by omega)
      have g2 : IntKind.i64.wrap (0 - (at_ + 1)) = (q : Int) := by rw [wI64 (by omega) (by omega)]; omega
      intro X0 hP0 hG0 N0 hN0
      refine CallVC.inline (f := 48) (by rw [hP0]; exact Tryd.func48) rfl Tryd.ntmps48 rfl (by simp) ?_
      intro X K hU hnt hbl hK
      have hP : X.P = Tryd.prog := hU.P.trans hP0
      have hG := hG0.under hU
      have hT := Ty.T48 hP
      simp only [GA, ↓GB, GX, simprocAttr] at hbl ⊢
      have u9 : X.P.underlying 9 = some .string := by rw [hP]; kernel_rfl
      have u58 : X.P.underlying 58 = some (.slice 5) := by rw [hP]; kernel_rfl
      have u5 : X.P.underlying 5 = some (.int .u8) := by rw [hP]; kernel_rfl
      have hb6 := fun K h => bend6 hP hnt hbl s q by_ hp K (bend7 hP hnt hbl _ K h)
      simp only [sub, Tryd.f48, Option.getD_some] at hb6
      repeat' (first
        | (refine SX.select (d := ⟨[(7, .one (.c (.row 0))), (1, vv (.int .i64 q)), (2, vv (.int .u8 by_.toNat))], [markB 5 s]⟩) [0] (LeR.of (by rw [hbl]; decide) (by simp only [GA, ↓GB, GX, simprocAttr, GDs]) (by simp only [GA, ↓GB, GX, simprocAttr, GDs]) (by decide) (by simp only [GA, ↓GB, GX, simprocAttr, GDs]) (by simp only [GA, ↓GB, GX, simprocAttr, GDs]) (by simp only [GA, ↓GB, GX, simprocAttr, GDs])) (hb6 _ ?_))
        | (refine SX.seqK ?_; intro N hN)
        | ((first | (refine SX.ops ?_) | (refine SX.planT (id := 6) [.q [(0, [7]), (1, [1]), (2, [7]), (3, [20]), (4, [19, 21]), (5, [7]), (6, [1]), (7, [7]), (8, [25]), (9, [24, 26]), (10, [23, 27]), (11, [28]), (12, [2]), (13, [29, 30]), (14, [18, 22])] none, .s 15] ?_ ?_ ?_; (focus first | (rw [hP]; kernel_rfl) | (rw [hU1P, hP]; kernel_rfl)); (focus kernel_rfl))); simp only [GA, ↓GB, GX, simprocAttr, hnt, hT, g1, g2])
        | ((first | refine SX.skip ?_ | refine SX.exit ?_ | refine SX.label ?_ | refine SX.ret ?_); try simp only [GA, ↓GB, GX, simprocAttr])
        | (refine hN _ ?_; clear hN N)
        | ((first | refine hK _ _ (FinI.ret3 ?_) | refine hK _ _ (FinI.nrm3 ?_)); simp only [GA, ↓GB, GX, simprocAttr, finP_s, hnt, hT, g1, g2]; refine Done.out ?_)
        | ((first | refine SX.cond rfl (fun hb => ?_) (fun hb => ?_) | (refine bif2.mk (fun hb => ?_) (fun hb => ?_) <;> (try simp only [hb, GA, ↓GB, GX, simprocAttr, hnt, hT, g1, g2]))) <;> ((first | cases hb | (simp only [HBs] at hb) | skip) <;> (first | (exfalso; omega) | skip)))
        | (refine VO.bytesOf (e := 5) s rfl u9 u58 u5 ?_; simp only [GA, ↓GB, GX, simprocAttr, hnt, hT, g1, g2])
        | (refine and_mk ?_ ?_; (focus first | decide | omega | rfl | assumption | (simp only [LBs]; omega) | (simp; done)))
        | (refine And.intro ?_ ?_))
      all_goals (try refine Done.mk ?_)
      · exact absurd hb he
      · (refine hN0 _ _ ⟨[], _, _, ?_, ?_, ?_, ⟨rfl, rfl⟩⟩; (focus exact LeR.of rfl trivial (by simp only [GA, ↓GB, GX, simprocAttr, GDs]) (by decide) rfl rfl rfl); rotate_left; (focus rfl))
        rfl
    · obtain ⟨q, rfl⟩ : ∃ q : Nat, at_ = q := ⟨at_.toNat, by omega⟩
      have hb0 : bendAt (q : Int) s.length = q % s.length := by unfold bendAt; rw [if_neg hn]; rfl
      have hlt := Nat.mod_lt q hp
      rw [hb0, List.getD_eq_getElem?_getD, List.getElem?_eq_getElem hlt, Option.getD_some]
      intro X0 hP0 hG0 N0 hN0
      refine CallVC.inline (f := 48) (by rw [hP0]; exact Tryd.func48) rfl Tryd.ntmps48 rfl (by simp) ?_
      intro X K hU hnt hbl hK
      have hP : X.P = Tryd.prog := hU.P.trans hP0
      have hG := hG0.under hU
      have hT := Ty.T48 hP
      simp only [GA, ↓GB, GX, simprocAttr] at hbl ⊢
      have u9 : X.P.underlying 9 = some .string := by rw [hP]; kernel_rfl
      have u58 : X.P.underlying 58 = some (.slice 5) := by rw [hP]; kernel_rfl
      have u5 : X.P.underlying 5 = some (.int .u8) := by rw [hP]; kernel_rfl
      have hb6 := fun K h => bend6 hP hnt hbl s q by_ hp K (bend7 hP hnt hbl _ K h)
      simp only [sub, Tryd.f48, Option.getD_some] at hb6
      repeat' (first
        | (refine SX.select (d := ⟨[(7, .one (.c (.row 0))), (1, vv (.int .i64 q)), (2, vv (.int .u8 by_.toNat))], [markB 5 s]⟩) [0] (LeR.of (by rw [hbl]; decide) (by simp only [GA, ↓GB, GX, simprocAttr, GDs]) (by simp only [GA, ↓GB, GX, simprocAttr, GDs]) (by decide) (by simp only [GA, ↓GB, GX, simprocAttr, GDs]) (by simp only [GA, ↓GB, GX, simprocAttr, GDs]) (by simp only [GA, ↓GB, GX, simprocAttr, GDs])) (hb6 _ ?_))
        | (refine SX.seqK ?_; intro N hN)
        | ((first | (refine SX.ops ?_) | (refine SX.planT (id := 6) [.q [(0, [7]), (1, [1]), (2, [7]), (3, [20]), (4, [19, 21]), (5, [7]), (6, [1]), (7, [7]), (8, [25]), (9, [24, 26]), (10, [23, 27]), (11, [28]), (12, [2]), (13, [29, 30]), (14, [18, 22])] none, .s 15] ?_ ?_ ?_; (focus first | (rw [hP]; kernel_rfl) | (rw [hU1P, hP]; kernel_rfl)); (focus kernel_rfl))); simp only [GA, ↓GB, GX, simprocAttr, hnt, hT])
        | ((first | refine SX.skip ?_ | refine SX.exit ?_ | refine SX.label ?_ | refine SX.ret ?_); try simp only [GA, ↓GB, GX, simprocAttr])
        | (refine hN _ ?_; clear hN N)
        | ((first | refine hK _ _ (FinI.ret3 ?_) | refine hK _ _ (FinI.nrm3 ?_)); simp only [GA, ↓GB, GX, simprocAttr, finP_s, hnt, hT]; refine Done.out ?_)
        | ((first | refine SX.cond rfl (fun hb => ?_) (fun hb => ?_) | (refine bif2.mk (fun hb => ?_) (fun hb => ?_) <;> (try simp only [hb, GA, ↓GB, GX, simprocAttr, hnt, hT]))) <;> ((first | cases hb | (simp only [HBs] at hb) | skip) <;> (first | (exfalso; omega) | skip)))
        | (refine VO.bytesOf (e := 5) s rfl u9 u58 u5 ?_; simp only [GA, ↓GB, GX, simprocAttr, hnt, hT])
        | (refine and_mk ?_ ?_; (focus first | decide | omega | rfl | assumption | (simp only [LBs]; omega) | (simp; done)))
        | (refine And.intro ?_ ?_))
      all_goals (try refine Done.mk ?_)
      · first | exact absurd hb he | (exfalso; omega)
      · (refine hN0 _ _ ⟨[], _, _, ?_, ?_, ?_, ⟨rfl, rfl⟩⟩; (focus exact LeR.of rfl trivial (by simp only [GA, ↓GB, GX, simprocAttr, GDs]) (by decide) rfl rfl rfl); rotate_left; (focus rfl))
        rfl
end Go.Proofs.YtbdacbcpniegiaaDoor.Q
namespace Go.Proofs.YtbdacbcpniegiaaDoor
open Go Go.RowKit
end Go.Proofs.YtbdacbcpniegiaaDoor
namespace Go.Proofs.YtbdacbcpniegiaaDoor.Q
open Go Go.RowKit Go.Proofs Go.Sx
theorem resB_len2 {r : Rs} (h : rightB r = true) : (resB r r.t.toNat).length ≤ 1099511627000 := by
  obtain ⟨h1, h2, h3, h4, h5, h6⟩ := right_type h
  have n1 := numB_len 1 r.t.toNat (by decide) (by omega)
  have n2 := textB_len 2 r.s (by decide) (by omega)
  have n3 := numB_len 3 r.q (by decide) (by omega)
  have n4 := numB_len 4 1 (by decide) (by decide)
  have n5 := textB_len 5 r.b (by decide) (by omega)
  unfold resB
  split <;> split <;> simp only [List.length_append, List.length_nil] <;> omega
theorem bendL_len (s : List UInt8) (a : Int) (b : UInt8) : (bendL s a b).length = s.length := by
  unfold bendL; split
  · rename_i h; simp [h]
  · simp
theorem codes_w {e : EA} (he : e.Ok) (r : Rs) (tow : Bool) (nm : Nat) (x : Rs) (z : List UInt8) (hz : z.length ≤ 1099511627776) (own : Bool) (at_ : Int) (h0 : -9223372036854775808 ≤ at_) (h1 : at_ ≤ 9223372036854775807) (by_ : UInt8)
    (hth : ∀ w, Calls Tryd.prog 46 #[.agg #[.int .i64 r.t, .string (B r.s), .int .u64 r.q, .bool r.g, .string (B r.b), .bool tow, .int .u8 nm]] w fun y w' => y = .returned (.agg #[.int .i64 x.t, .string (B x.s), .int .u64 x.q, .bool x.g, .string (B x.b)]) ∧ Below w.heap.size w w')
    (bx : List UInt8) (ok : Bool) (hbx : bx.length ≤ 1099511627776)
    (hpx : ∀ w, Calls Tryd.prog 45 #[.agg #[.int .i64 x.t, .string (B x.s), .int .u64 x.q, .bool x.g, .string (B x.b)]] w fun e w' => e = .returned (.tuple #[.string (B bx), .bool ok]) ∧ Below w.heap.size w w')
    (hrx : ∀ w, Calls Tryd.prog 47 #[.agg #[.int .i64 x.t, .string (B x.s), .int .u64 x.q, .bool x.g, .string (B x.b)]] w fun e w' => e = .returned (.tuple #[.string (B bx), .bool ok]) ∧ Below w.heap.size w w') :
    Ctr Tryd.prog (GW e) 11 [] [.one (.agg [.v (.int .i64 r.t), .v (.string (B r.s)), .v (.int .u64 r.q), .v (.bool r.g), .v (.string (B r.b)), .v (.bool tow), .v (.int .u8 nm)]), vv (.string (B z)), vv (.bool own), vv (.int .i64 at_), vv (.int .u8 by_.toNat)] (fun os v => os = [] ∧ v = vv (.bool true)) := by
  have hex := ex04_ctr he
  have hbend := bend_ctr bx hbx at_ h0 h1 by_
  refine Ctr.less ?_
  cases own with
  | true =>
    have hg := getRes_ctr he (bendL bx at_ by_) (by rw [bendL_len]; exact hbx)
    have hr := rGet_ctr (bendL bx at_ by_) (by rw [bendL_len]; exact hbx)
    rw [← resR_resP] at hr
    cases hc : resR (bendL bx at_ by_) with
    | none =>
      rw [hc] at hg hr
      simp only [resV] at hg hr
      intro X0 hP0 hG0 N0 hN0
      refine CallVC.inline (f := 11) (by rw [hP0]; exact Tryd.func11) rfl Tryd.ntmps11 rfl (by simp) ?_
      intro X K hU hnt hbl hK
      have hP : X.P = Tryd.prog := hU.P.trans hP0
      have hG := hG0.under hU
      have hT := Ty.T11 hP
      simp only [GA, ↓GB, GX, simprocAttr] at hbl ⊢
      repeat' (first
        | (refine SX.seqK ?_; intro N hN)
        | ((first | (refine SX.ops ?_)); simp only [GA, ↓GB, GX, simprocAttr, hnt, hT])
        | ((first | refine SX.skip ?_ | refine SX.exit ?_ | refine SX.label ?_ | refine SX.ret ?_); try simp only [GA, ↓GB, GX, simprocAttr])
        | (refine hN _ ?_; clear hN N)
        | ((first | refine hK _ _ (FinI.ret3 ?_) | refine hK _ _ (FinI.nrm3 ?_)); simp only [GA, ↓GB, GX, simprocAttr, finP_s, hnt, hT]; refine Done.out ?_)
        | ((first | refine SX.cond rfl (fun hb => ?_) (fun hb => ?_) | (refine bif2.mk (fun hb => ?_) (fun hb => ?_) <;> (try simp only [hb, GA, ↓GB, GX, simprocAttr, hnt, hT]))) <;> ((first | cases hb | (simp only [HBs] at hb) | skip) <;> (first | (exfalso; omega) | skip)))
        | ((first | (refine Ctr.use (hex) hP hG [] ?_ rfl rfl ?_; (focus (refine LeR.of rfl trivial ?_ ?_ ?_ ?_ ?_ <;> first | decide | (simp only [GA, ↓GB, GX, simprocAttr, GDs]; done))); intro os' s hR; obtain ⟨rfl, rfl⟩ := hR) | (refine CallVC.pa hP (hth) rfl ?_) | (refine CallQ.pa hP (hth) rfl ?_) | (refine CallVC.pt (l := [_, _]) hP (hpx) rfl ?_) | (refine CallQ.pt (l := [_, _]) hP (hpx) rfl ?_) | (refine CallVC.pt (l := [_, _]) hP (hrx) rfl ?_) | (refine CallQ.pt (l := [_, _]) hP (hrx) rfl ?_) | (refine Ctr.use (hbend) hP ?_ [] ?_ rfl rfl ?_; (focus (intro p hp; cases hp)); (focus (refine LeR.of rfl trivial ?_ ?_ ?_ ?_ ?_ <;> first | decide | (simp only [GA, ↓GB, GX, simprocAttr, GDs]; done))); intro os' s hR; obtain ⟨rfl, rfl⟩ := hR) | (refine Ctr.use (hg) hP hG [] ?_ rfl rfl ?_; (focus (refine LeR.of rfl trivial ?_ ?_ ?_ ?_ ?_ <;> first | decide | (simp only [GA, ↓GB, GX, simprocAttr, GDs]; done))); intro os' s hR; obtain ⟨rfl, rfl⟩ := hR) | (refine Ctr.use (hr) hP ?_ [] ?_ rfl rfl ?_; (focus (intro p hp; cases hp)); (focus (refine LeR.of rfl trivial ?_ ?_ ?_ ?_ ?_ <;> first | decide | (simp only [GA, ↓GB, GX, simprocAttr, GDs]; done))); intro os' s hR; obtain ⟨rfl, rfl⟩ := hR)); simp only [GA, ↓GB, GX, simprocAttr, hnt, hT])
        | (refine ⟨_, strEq_to hP (Ty.eqS89 _ _ _ _ _ _ _ _ _ _), ?_⟩)
        | (refine and_mk ?_ ?_; (focus first | decide | omega | rfl | assumption | (simp only [LBs]; omega) | (simp; done)))
        | (refine And.intro ?_ ?_))
      all_goals (try refine Done.mk ?_)
      all_goals first
        | ((refine hN0 _ _ ⟨[], _, _, ?_, ?_, ?_, ⟨rfl, rfl⟩⟩; (focus exact LeR.of rfl trivial (by simp only [GA, ↓GB, GX, simprocAttr, GDs]) (by decide) rfl rfl rfl); rotate_left; (focus rfl)); rfl)
        | (exfalso; clear hK hT hP hnt hN0 hG hG0 hbl hex hg hr hpx hrx hth hP0; simp_all; done)
        | skip
    | some y =>
      rw [hc] at hg hr
      simp only [resV] at hg hr
      intro X0 hP0 hG0 N0 hN0
      refine CallVC.inline (f := 11) (by rw [hP0]; exact Tryd.func11) rfl Tryd.ntmps11 rfl (by simp) ?_
      intro X K hU hnt hbl hK
      have hP : X.P = Tryd.prog := hU.P.trans hP0
      have hG := hG0.under hU
      have hT := Ty.T11 hP
      simp only [GA, ↓GB, GX, simprocAttr] at hbl ⊢
      repeat' (first
        | (refine SX.seqK ?_; intro N hN)
        | ((first | (refine SX.ops ?_)); simp only [GA, ↓GB, GX, simprocAttr, hnt, hT])
        | ((first | refine SX.skip ?_ | refine SX.exit ?_ | refine SX.label ?_ | refine SX.ret ?_); try simp only [GA, ↓GB, GX, simprocAttr])
        | (refine hN _ ?_; clear hN N)
        | ((first | refine hK _ _ (FinI.ret3 ?_) | refine hK _ _ (FinI.nrm3 ?_)); simp only [GA, ↓GB, GX, simprocAttr, finP_s, hnt, hT]; refine Done.out ?_)
        | ((first | refine SX.cond rfl (fun hb => ?_) (fun hb => ?_) | (refine bif2.mk (fun hb => ?_) (fun hb => ?_) <;> (try simp only [hb, GA, ↓GB, GX, simprocAttr, hnt, hT]))) <;> ((first | cases hb | (simp only [HBs] at hb) | skip) <;> (first | (exfalso; omega) | skip)))
        | ((first | (refine Ctr.use (hex) hP hG [] ?_ rfl rfl ?_; (focus (refine LeR.of rfl trivial ?_ ?_ ?_ ?_ ?_ <;> first | decide | (simp only [GA, ↓GB, GX, simprocAttr, GDs]; done))); intro os' s hR; obtain ⟨rfl, rfl⟩ := hR) | (refine CallVC.pa hP (hth) rfl ?_) | (refine CallQ.pa hP (hth) rfl ?_) | (refine CallVC.pt (l := [_, _]) hP (hpx) rfl ?_) | (refine CallQ.pt (l := [_, _]) hP (hpx) rfl ?_) | (refine CallVC.pt (l := [_, _]) hP (hrx) rfl ?_) | (refine CallQ.pt (l := [_, _]) hP (hrx) rfl ?_) | (refine Ctr.use (hbend) hP ?_ [] ?_ rfl rfl ?_; (focus (intro p hp; cases hp)); (focus (refine LeR.of rfl trivial ?_ ?_ ?_ ?_ ?_ <;> first | decide | (simp only [GA, ↓GB, GX, simprocAttr, GDs]; done))); intro os' s hR; obtain ⟨rfl, rfl⟩ := hR) | (refine Ctr.use (hg) hP hG [] ?_ rfl rfl ?_; (focus (refine LeR.of rfl trivial ?_ ?_ ?_ ?_ ?_ <;> first | decide | (simp only [GA, ↓GB, GX, simprocAttr, GDs]; done))); intro os' s hR; obtain ⟨rfl, rfl⟩ := hR) | (refine Ctr.use (hr) hP ?_ [] ?_ rfl rfl ?_; (focus (intro p hp; cases hp)); (focus (refine LeR.of rfl trivial ?_ ?_ ?_ ?_ ?_ <;> first | decide | (simp only [GA, ↓GB, GX, simprocAttr, GDs]; done))); intro os' s hR; obtain ⟨rfl, rfl⟩ := hR)); simp only [GA, ↓GB, GX, simprocAttr, hnt, hT])
        | (refine ⟨_, strEq_to hP (Ty.eqS89 _ _ _ _ _ _ _ _ _ _), ?_⟩)
        | (refine and_mk ?_ ?_; (focus first | decide | omega | rfl | assumption | (simp only [LBs]; omega) | (simp; done)))
        | (refine And.intro ?_ ?_))
      all_goals (try refine Done.mk ?_)
      all_goals first
        | ((refine hN0 _ _ ⟨[], _, _, ?_, ?_, ?_, ⟨rfl, rfl⟩⟩; (focus exact LeR.of rfl trivial (by simp only [GA, ↓GB, GX, simprocAttr, GDs]) (by decide) rfl rfl rfl); rotate_left; (focus rfl)); rfl)
        | (exfalso; clear hK hT hP hnt hN0 hG hG0 hbl hex hg hr hpx hrx hth hP0; simp_all; done)
        | skip
  | false =>
    have hg := getRes_ctr he z (by exact hz)
    have hr := rGet_ctr z (by exact hz)
    rw [← resR_resP] at hr
    cases hc : resR z with
    | none =>
      rw [hc] at hg hr
      simp only [resV] at hg hr
      intro X0 hP0 hG0 N0 hN0
      refine CallVC.inline (f := 11) (by rw [hP0]; exact Tryd.func11) rfl Tryd.ntmps11 rfl (by simp) ?_
      intro X K hU hnt hbl hK
      have hP : X.P = Tryd.prog := hU.P.trans hP0
      have hG := hG0.under hU
      have hT := Ty.T11 hP
      simp only [GA, ↓GB, GX, simprocAttr] at hbl ⊢
      repeat' (first
        | (refine SX.seqK ?_; intro N hN)
        | ((first | (refine SX.ops ?_)); simp only [GA, ↓GB, GX, simprocAttr, hnt, hT])
        | ((first | refine SX.skip ?_ | refine SX.exit ?_ | refine SX.label ?_ | refine SX.ret ?_); try simp only [GA, ↓GB, GX, simprocAttr])
        | (refine hN _ ?_; clear hN N)
        | ((first | refine hK _ _ (FinI.ret3 ?_) | refine hK _ _ (FinI.nrm3 ?_)); simp only [GA, ↓GB, GX, simprocAttr, finP_s, hnt, hT]; refine Done.out ?_)
        | ((first | refine SX.cond rfl (fun hb => ?_) (fun hb => ?_) | (refine bif2.mk (fun hb => ?_) (fun hb => ?_) <;> (try simp only [hb, GA, ↓GB, GX, simprocAttr, hnt, hT]))) <;> ((first | cases hb | (simp only [HBs] at hb) | skip) <;> (first | (exfalso; omega) | skip)))
        | ((first | (refine Ctr.use (hex) hP hG [] ?_ rfl rfl ?_; (focus (refine LeR.of rfl trivial ?_ ?_ ?_ ?_ ?_ <;> first | decide | (simp only [GA, ↓GB, GX, simprocAttr, GDs]; done))); intro os' s hR; obtain ⟨rfl, rfl⟩ := hR) | (refine CallVC.pa hP (hth) rfl ?_) | (refine CallQ.pa hP (hth) rfl ?_) | (refine CallVC.pt (l := [_, _]) hP (hpx) rfl ?_) | (refine CallQ.pt (l := [_, _]) hP (hpx) rfl ?_) | (refine CallVC.pt (l := [_, _]) hP (hrx) rfl ?_) | (refine CallQ.pt (l := [_, _]) hP (hrx) rfl ?_) | (refine Ctr.use (hg) hP hG [] ?_ rfl rfl ?_; (focus (refine LeR.of rfl trivial ?_ ?_ ?_ ?_ ?_ <;> first | decide | (simp only [GA, ↓GB, GX, simprocAttr, GDs]; done))); intro os' s hR; obtain ⟨rfl, rfl⟩ := hR) | (refine Ctr.use (hr) hP ?_ [] ?_ rfl rfl ?_; (focus (intro p hp; cases hp)); (focus (refine LeR.of rfl trivial ?_ ?_ ?_ ?_ ?_ <;> first | decide | (simp only [GA, ↓GB, GX, simprocAttr, GDs]; done))); intro os' s hR; obtain ⟨rfl, rfl⟩ := hR)); simp only [GA, ↓GB, GX, simprocAttr, hnt, hT])
        | (refine ⟨_, strEq_to hP (Ty.eqS89 _ _ _ _ _ _ _ _ _ _), ?_⟩)
        | (refine and_mk ?_ ?_; (focus first | decide | omega | rfl | assumption | (simp only [LBs]; omega) | (simp; done)))
        | (refine And.intro ?_ ?_))
      all_goals (try refine Done.mk ?_)
      all_goals first
        | ((refine hN0 _ _ ⟨[], _, _, ?_, ?_, ?_, ⟨rfl, rfl⟩⟩; (focus exact LeR.of rfl trivial (by simp only [GA, ↓GB, GX, simprocAttr, GDs]) (by decide) rfl rfl rfl); rotate_left; (focus rfl)); rfl)
        | (exfalso; clear hK hT hP hnt hN0 hG hG0 hbl hex hg hr hpx hrx hth hP0; simp_all; done)
        | skip
    | some y =>
      rw [hc] at hg hr
      simp only [resV] at hg hr
      intro X0 hP0 hG0 N0 hN0
      refine CallVC.inline (f := 11) (by rw [hP0]; exact Tryd.func11) rfl Tryd.ntmps11 rfl (by simp) ?_
      intro X K hU hnt hbl hK
      have hP : X.P = Tryd.prog := hU.P.trans hP0
      have hG := hG0.under hU
      have hT := Ty.T11 hP
      simp only [GA, ↓GB, GX, simprocAttr] at hbl ⊢
      repeat' (first
        | (refine SX.seqK ?_; intro N hN)
        | ((first | (refine SX.ops ?_)); simp only [GA, ↓GB, GX, simprocAttr, hnt, hT])
        | ((first | refine SX.skip ?_ | refine SX.exit ?_ | refine SX.label ?_ | refine SX.ret ?_); try simp only [GA, ↓GB, GX, simprocAttr])
        | (refine hN _ ?_; clear hN N)
        | ((first | refine hK _ _ (FinI.ret3 ?_) | refine hK _ _ (FinI.nrm3 ?_)); simp only [GA, ↓GB, GX, simprocAttr, finP_s, hnt, hT]; refine Done.out ?_)
        | ((first | refine SX.cond rfl (fun hb => ?_) (fun hb => ?_) | (refine bif2.mk (fun hb => ?_) (fun hb => ?_) <;> (try simp only [hb, GA, ↓GB, GX, simprocAttr, hnt, hT]))) <;> ((first | cases hb | (simp only [HBs] at hb) | skip) <;> (first | (exfalso; omega) | skip)))
        | ((first | (refine Ctr.use (hex) hP hG [] ?_ rfl rfl ?_; (focus (refine LeR.of rfl trivial ?_ ?_ ?_ ?_ ?_ <;> first | decide | (simp only [GA, ↓GB, GX, simprocAttr, GDs]; done))); intro os' s hR; obtain ⟨rfl, rfl⟩ := hR) | (refine CallVC.pa hP (hth) rfl ?_) | (refine CallQ.pa hP (hth) rfl ?_) | (refine CallVC.pt (l := [_, _]) hP (hpx) rfl ?_) | (refine CallQ.pt (l := [_, _]) hP (hpx) rfl ?_) | (refine CallVC.pt (l := [_, _]) hP (hrx) rfl ?_) | (refine CallQ.pt (l := [_, _]) hP (hrx) rfl ?_) | (refine Ctr.use (hg) hP hG [] ?_ rfl rfl ?_; (focus (refine LeR.of rfl trivial ?_ ?_ ?_ ?_ ?_ <;> first | decide | (simp only [GA, ↓GB, GX, simprocAttr, GDs]; done))); intro os' s hR; obtain ⟨rfl, rfl⟩ := hR) | (refine Ctr.use (hr) hP ?_ [] ?_ rfl rfl ?_; (focus (intro p hp; cases hp)); (focus (refine LeR.of rfl trivial ?_ ?_ ?_ ?_ ?_ <;> first | decide | (simp only [GA, ↓GB, GX, simprocAttr, GDs]; done))); intro os' s hR; obtain ⟨rfl, rfl⟩ := hR)); simp only [GA, ↓GB, GX, simprocAttr, hnt, hT])
        | (refine ⟨_, strEq_to hP (Ty.eqS89 _ _ _ _ _ _ _ _ _ _), ?_⟩)
        | (refine and_mk ?_ ?_; (focus first | decide | omega | rfl | assumption | (simp only [LBs]; omega) | (simp; done)))
        | (refine And.intro ?_ ?_))
      all_goals (try refine Done.mk ?_)
      all_goals first
        | ((refine hN0 _ _ ⟨[], _, _, ?_, ?_, ?_, ⟨rfl, rfl⟩⟩; (focus exact LeR.of rfl trivial (by simp only [GA, ↓GB, GX, simprocAttr, GDs]) (by decide) rfl rfl rfl); rotate_left; (focus rfl)); rfl)
        | (exfalso; clear hK hT hP hnt hN0 hG hG0 hbl hex hg hr hpx hrx hth hP0; simp_all; done)
        | skip
theorem codes_any (y : Th) (hy : y.Ok) (z : List UInt8) (hz : z.length ≤ 1099511627776) (own : Bool) (at_ : Int) (h0 : -9223372036854775808 ≤ at_) (h1 : at_ ≤ 9223372036854775807) (by_ : UInt8) (w : World) {e : EA} (he : e.Ok) (hG : ∀ p ∈ GW e, w.cell? p.1 = some p.2 ∧ loneStr w p) :
    Calls Tryd.prog 11 #[.agg y.cells.toArray, .string (B z), .bool own, .int .i64 at_, .int .u8 by_.toNat] w fun x w' => x = .returned (.bool true) ∧ Below w.heap.size w w' := by
  obtain ⟨r, tow, nm⟩ := y
  have hs : r.s.length ≤ 9223372036854775807 := hy.r.s
  obtain ⟨x, hth, hxs⟩ : ∃ x : Rs, (∀ w, Calls Tryd.prog 46 #[.agg #[.int .i64 r.t, .string (B r.s), .int .u64 r.q, .bool r.g, .string (B r.b), .bool tow, .int .u8 nm]] w fun y w' => y = .returned (.agg #[.int .i64 x.t, .string (B x.s), .int .u64 x.q, .bool x.g, .string (B x.b)]) ∧ Below w.heap.size w w') ∧ x.s.length ≤ 9223372036854775807 := by
    cases tow with
    | true =>
      refine ⟨thL r nm, fun w => thing_yes r.t r.s r.b r.q r.g nm w, ?_⟩
      have := (right_type (thL_right r nm)).2.2.1
      omega
    | false => exact ⟨r, fun w => thing_no r.t r.s r.b r.q r.g nm w, hs⟩
  have hctr : Ctr Tryd.prog (GW e) 11 [] [.one (.agg [.v (.int .i64 r.t), .v (.string (B r.s)), .v (.int .u64 r.q), .v (.bool r.g), .v (.string (B r.b)), .v (.bool tow), .v (.int .u8 nm)]), vv (.string (B z)), vv (.bool own), vv (.int .i64 at_), vv (.int .u8 by_.toNat)] (fun os v => os = [] ∧ v = vv (.bool true)) := by
    cases hR : rightB x with
    | true => exact codes_w he r tow nm x z hz own at_ h0 h1 by_ hth _ _ (by have := resB_len2 hR; omega) (put_yes x hR) (rput_yes x hR)
    | false => exact codes_w he r tow nm x z hz own at_ h0 h1 by_ hth [] false (by simp) (put_no x hxs hR) (rput_no x hxs hR)
  refine (ctr_calls hctr w hG (vals := [.agg #[.int .i64 r.t, .string (B r.s), .int .u64 r.q, .bool r.g, .string (B r.b), .bool tow, .int .u8 nm], .string (B z), .bool own, .int .i64 at_, .int .u8 by_.toNat]) ⟨⟨_, rfl, rfl, rfl, rfl, rfl, rfl, rfl, rfl, trivial⟩, rfl, rfl, rfl, rfl, trivial⟩).mono ?_
  rintro x w' ⟨v, os', s, σ', rfl, ⟨rfl, rfl⟩, hd, hb⟩
  have hd : v = .bool true := hd
  subst hd
  exact ⟨rfl, hb⟩
end Go.Proofs.YtbdacbcpniegiaaDoor.Q
