/- Own work: a part of the symbolic executor and of the walks of the functions that the claim reaches. -/
import Derived.Test.YtbdacbcpniegiaaDoorBase3
import Derived.Test.YtbdacbcpniegiaaDoorRows
import Derived.LaidLaws
set_option maxRecDepth 100000
set_option maxHeartbeats 64000000
set_option linter.unusedSimpArgs false
set_option linter.unusedVariables false
namespace Go.Proofs.YtbdacbcpniegiaaDoor
open Go Go.RowKit Go.Proofs Go.Sx
theorem getRes_some {e : EA} (he : e.Ok) (s : List UInt8) (hs : s.length ≤ 1099511627776) {l : List NW.Fld} (hl : NW.parse s = some l) : Ctr Tryd.prog (GW e) 49 [] [vv (.string (B s))]
    (fun os v => os = [] ∧ v = resV (resG (takeG stepR l (true, [])).1)) := by
  have hll : l.length ≤ 1099511627776 := Nat.le_trans (parse_len hl) hs
  have hn2 := lastN_len hl 2
  have hp : Ctr Tryd.prog (GW e) 109 [] [vv (.string (B s))] (fun os v => os = [frow l] ∧ v = .tup [.c (.row 0), .c (.v (.bool true))]) := by
    have := parse_ctrW he s hs
    rw [hl] at this
    exact this
  obtain ⟨m, hm⟩ : ∃ m, (takeG stepR l (true, [])).1 = m := ⟨_, rfl⟩
  rw [hm] at hn2 ⊢
  have hr := right_any (rsOf m.2) (by show (lastN 2 m.2).s.length ≤ _; omega)
  obtain ⟨ok, es⟩ := m
  simp only [rsOf] at hn2 hr ⊢
  have g1 : ∀ N, lkS (.int .i64 1) N (mE es) = N ((findN 1 es).map (sE 1)) := fun N => lkS_mE 1 N es
  have g2 : ∀ N, lkS (.int .i64 2) N (mE es) = N ((findN 2 es).map (sE 2)) := fun N => lkS_mE 2 N es
  have g3 : ∀ N, lkS (.int .i64 3) N (mE es) = N ((findN 3 es).map (sE 3)) := fun N => lkS_mE 3 N es
  have g4 : ∀ N, lkS (.int .i64 4) N (mE es) = N ((findN 4 es).map (sE 4)) := fun N => lkS_mE 4 N es
  have g5 : ∀ N, lkS (.int .i64 5) N (mE es) = N ((findN 5 es).map (sE 5)) := fun N => lkS_mE 5 N es
  have g6 := getD_last
  have ga := mE_all es
  refine Ctr.less ?_
  unfold resG
  by_cases hok : ok = true
  · subst hok
    by_cases h1 : (lastN 1 es).n ≤ 5
    · have b1 : decide ((5 : Int) < ((lastN 1 es).n : Int)) = false := by simp; omega
      by_cases h4 : (lastN 4 es).n ≤ 1
      · have b4 : decide ((1 : Int) < ((lastN 4 es).n : Int)) = false := by simp; omega
        have hw : IntKind.i64.wrap ((lastN 1 es).n : Int) = ((lastN 1 es).n : Int) := wI64 (by omega) (by omega)
        by_cases hR : rightB ⟨((lastN 1 es).n : Int), (lastN 2 es).s, (lastN 3 es).n, (((lastN 4 es).n : Int) == 1), (lastN 5 es).s⟩ = true
        · rw [if_pos ⟨rfl, h1, h4, hR⟩]
          simp only [hR] at hr
          intro X0 hP0 hG0 N0 hN0
          refine CallVC.inline (f := 49) (by rw [hP0]; exact Tryd.func49) rfl Tryd.ntmps49 rfl (by simp) ?_
          intro X K hU hnt hbl hK
          have hP : X.P = Tryd.prog := hU.P.trans hP0
          have hG := hG0.under hU
          have hT := Ty.T49 hP
          simp only [GA, ↓GB, GX, simprocAttr] at hbl ⊢
          have hl2 := fun K => get_l2 hP hnt hbl l hll K
          simp only [hm] at hl2
          repeat' (first
            | (refine SX.join (x := .seq (.region 4 _ _) (.block 0 _)) (ι := Unit) (fun _ => ⟨[(2, .one (.c (.loc 0 0))), (3, vv (.bool false)), (5, vv (.bool true)), (7, .one (.c (.row 1)))], [rs0, .map (mE es)]⟩) (SX.select (d := ⟨[(2, .one (.c (.loc 0 0))), (3, vv (.bool false)), (4, .one (.c (.row 1))), (5, vv (.bool true)), (6, .one (.c (.row 2))), (7, .one (.c (.row 3)))], [rs0, frow l, kindMap, .map []]⟩) [0, 1, 2, 3] (LeR.of (by rw [hbl]; decide) (by simp only [GA, ↓GB, GX, simprocAttr, GDs]) (by simp only [GA, ↓GB, GX, simprocAttr, GDs]) (by decide) (by simp only [GA, ↓GB, GX, simprocAttr, GDs]) (by simp only [GA, ↓GB, GX, simprocAttr, GDs]) (by simp only [GA, ↓GB, GX, simprocAttr, GDs])) (hl2 _)) (fun _ => ?_))
            | (refine SX.seqK ?_; intro N hN)
            | ((first | (refine SX.ops ?_) | (refine SX.planT (id := 12) [.q [(0, [7]), (1, [49]), (2, [50]), (3, [7]), (4, [52]), (5, [53]), (6, [51]), (7, [54])] none] ?_ ?_ ?_; (focus first | (rw [hP]; kernel_rfl) | (rw [hU1P, hP]; kernel_rfl)); (focus kernel_rfl))); simp only [GA, ↓GB, GX, simprocAttr, hnt, hT, g1, g2, g3, g4, g5, g6, ga, b1, b4, hw])
            | ((first | refine SX.skip ?_ | refine SX.exit ?_ | refine SX.label ?_ | refine SX.ret ?_); try simp only [GA, ↓GB, GX, simprocAttr])
            | (refine hN _ ?_; clear hN N)
            | ((first | refine hK _ _ (FinI.ret3 ?_) | refine hK _ _ (FinI.nrm3 ?_)); simp only [GA, ↓GB, GX, simprocAttr, finP_s, hnt, hT, g1, g2, g3, g4, g5, g6, ga, b1, b4, hw]; refine Done.out ?_)
            | (clear hN N; first | (refine hN _ ?_; clear hN N) | (clear hN N; refine hN _ ?_; clear hN N))
            | ((first | refine SX.cond rfl (fun hb => ?_) (fun hb => ?_) | (refine bif2.mk (fun hb => ?_) (fun hb => ?_) <;> (try simp only [hb, GA, ↓GB, GX, simprocAttr, hnt, hT, g1, g2, g3, g4, g5, g6, ga, b1, b4, hw]))) <;> ((first | cases hb | (simp only [HBs] at hb) | skip) <;> (first | (exfalso; omega) | skip)))
            | ((first | (refine Ctr.use (hp) hP hG [] ?_ rfl rfl ?_; (focus (refine LeR.of rfl trivial ?_ ?_ ?_ ?_ ?_ <;> first | decide | (simp only [GA, ↓GB, GX, simprocAttr, GDs]; done))); intro os' s hR; obtain ⟨rfl, rfl⟩ := hR) | (refine CallVC.pv hP (hr) rfl ?_) | (refine CallQ.pv hP (hr) rfl ?_)); simp only [GA, ↓GB, GX, simprocAttr, hnt, hT, g1, g2, g3, g4, g5, g6, ga, b1, b4, hw])
            | (refine SX.block ?_)
            | (refine and_mk ?_ ?_; (focus first | decide | omega | rfl | assumption | (simp only [LBs]; omega) | (simp; done)))
            | (refine And.intro ?_ ?_))
          all_goals (try refine Done.mk ?_)
          all_goals ((refine hN0 _ _ ⟨[], _, _, ?_, ?_, ?_, ⟨rfl, rfl⟩⟩; (focus exact LeR.of rfl trivial (by simp only [GA, ↓GB, GX, simprocAttr, GDs]) (by decide) rfl rfl rfl); rotate_left; (focus rfl)); rfl)
        · have hR : rightB ⟨((lastN 1 es).n : Int), (lastN 2 es).s, (lastN 3 es).n, (((lastN 4 es).n : Int) == 1), (lastN 5 es).s⟩ = false := by simpa using hR
          rw [if_neg (fun h => by have := h.2.2.2.symm.trans hR; cases this)]
          simp only [hR] at hr
          intro X0 hP0 hG0 N0 hN0
          refine CallVC.inline (f := 49) (by rw [hP0]; exact Tryd.func49) rfl Tryd.ntmps49 rfl (by simp) ?_
          intro X K hU hnt hbl hK
          have hP : X.P = Tryd.prog := hU.P.trans hP0
          have hG := hG0.under hU
          have hT := Ty.T49 hP
          simp only [GA, ↓GB, GX, simprocAttr] at hbl ⊢
          have hl2 := fun K => get_l2 hP hnt hbl l hll K
          simp only [hm] at hl2
          repeat' (first
            | (refine SX.join (x := .seq (.region 4 _ _) (.block 0 _)) (ι := Unit) (fun _ => ⟨[(2, .one (.c (.loc 0 0))), (3, vv (.bool false)), (5, vv (.bool true)), (7, .one (.c (.row 1)))], [rs0, .map (mE es)]⟩) (SX.select (d := ⟨[(2, .one (.c (.loc 0 0))), (3, vv (.bool false)), (4, .one (.c (.row 1))), (5, vv (.bool true)), (6, .one (.c (.row 2))), (7, .one (.c (.row 3)))], [rs0, frow l, kindMap, .map []]⟩) [0, 1, 2, 3] (LeR.of (by rw [hbl]; decide) (by simp only [GA, ↓GB, GX, simprocAttr, GDs]) (by simp only [GA, ↓GB, GX, simprocAttr, GDs]) (by decide) (by simp only [GA, ↓GB, GX, simprocAttr, GDs]) (by simp only [GA, ↓GB, GX, simprocAttr, GDs]) (by simp only [GA, ↓GB, GX, simprocAttr, GDs])) (hl2 _)) (fun _ => ?_))
            | (refine SX.seqK ?_; intro N hN)
            | ((first | (refine SX.ops ?_) | (refine SX.planT (id := 12) [.q [(0, [7]), (1, [49]), (2, [50]), (3, [7]), (4, [52]), (5, [53]), (6, [51]), (7, [54])] none] ?_ ?_ ?_; (focus first | (rw [hP]; kernel_rfl) | (rw [hU1P, hP]; kernel_rfl)); (focus kernel_rfl))); simp only [GA, ↓GB, GX, simprocAttr, hnt, hT, g1, g2, g3, g4, g5, g6, ga, b1, b4, hw])
            | ((first | refine SX.skip ?_ | refine SX.exit ?_ | refine SX.label ?_ | refine SX.ret ?_); try simp only [GA, ↓GB, GX, simprocAttr])
            | (refine hN _ ?_; clear hN N)
            | ((first | refine hK _ _ (FinI.ret3 ?_) | refine hK _ _ (FinI.nrm3 ?_)); simp only [GA, ↓GB, GX, simprocAttr, finP_s, hnt, hT, g1, g2, g3, g4, g5, g6, ga, b1, b4, hw]; refine Done.out ?_)
            | (clear hN N; first | (refine hN _ ?_; clear hN N) | (clear hN N; refine hN _ ?_; clear hN N))
            | ((first | refine SX.cond rfl (fun hb => ?_) (fun hb => ?_) | (refine bif2.mk (fun hb => ?_) (fun hb => ?_) <;> (try simp only [hb, GA, ↓GB, GX, simprocAttr, hnt, hT, g1, g2, g3, g4, g5, g6, ga, b1, b4, hw]))) <;> ((first | cases hb | (simp only [HBs] at hb) | skip) <;> (first | (exfalso; omega) | skip)))
            | ((first | (refine Ctr.use (hp) hP hG [] ?_ rfl rfl ?_; (focus (refine LeR.of rfl trivial ?_ ?_ ?_ ?_ ?_ <;> first | decide | (simp only [GA, ↓GB, GX, simprocAttr, GDs]; done))); intro os' s hR; obtain ⟨rfl, rfl⟩ := hR) | (refine CallVC.pv hP (hr) rfl ?_) | (refine CallQ.pv hP (hr) rfl ?_)); simp only [GA, ↓GB, GX, simprocAttr, hnt, hT, g1, g2, g3, g4, g5, g6, ga, b1, b4, hw])
            | (refine SX.block ?_)
            | (refine and_mk ?_ ?_; (focus first | decide | omega | rfl | assumption | (simp only [LBs]; omega) | (simp; done)))
            | (refine And.intro ?_ ?_))
          all_goals (try refine Done.mk ?_)
          all_goals ((refine hN0 _ _ ⟨[], _, _, ?_, ?_, ?_, ⟨rfl, rfl⟩⟩; (focus exact LeR.of rfl trivial (by simp only [GA, ↓GB, GX, simprocAttr, GDs]) (by decide) rfl rfl rfl); rotate_left; (focus rfl)); rfl)
      · have b4 : decide ((1 : Int) < ((lastN 4 es).n : Int)) = true := by simp; omega
        rw [if_neg (fun h => h4 h.2.2.1)]
        intro X0 hP0 hG0 N0 hN0
        refine CallVC.inline (f := 49) (by rw [hP0]; exact Tryd.func49) rfl Tryd.ntmps49 rfl (by simp) ?_
        intro X K hU hnt hbl hK
        have hP : X.P = Tryd.prog := hU.P.trans hP0
        have hG := hG0.under hU
        have hT := Ty.T49 hP
        simp only [GA, ↓GB, GX, simprocAttr] at hbl ⊢
        have hl2 := fun K => get_l2 hP hnt hbl l hll K
        simp only [hm] at hl2
        repeat' (first
          | (refine SX.join (x := .seq (.region 4 _ _) (.block 0 _)) (ι := Unit) (fun _ => ⟨[(2, .one (.c (.loc 0 0))), (3, vv (.bool false)), (5, vv (.bool true)), (7, .one (.c (.row 1)))], [rs0, .map (mE es)]⟩) (SX.select (d := ⟨[(2, .one (.c (.loc 0 0))), (3, vv (.bool false)), (4, .one (.c (.row 1))), (5, vv (.bool true)), (6, .one (.c (.row 2))), (7, .one (.c (.row 3)))], [rs0, frow l, kindMap, .map []]⟩) [0, 1, 2, 3] (LeR.of (by rw [hbl]; decide) (by simp only [GA, ↓GB, GX, simprocAttr, GDs]) (by simp only [GA, ↓GB, GX, simprocAttr, GDs]) (by decide) (by simp only [GA, ↓GB, GX, simprocAttr, GDs]) (by simp only [GA, ↓GB, GX, simprocAttr, GDs]) (by simp only [GA, ↓GB, GX, simprocAttr, GDs])) (hl2 _)) (fun _ => ?_))
          | (refine SX.seqK ?_; intro N hN)
          | ((first | (refine SX.ops ?_) | (refine SX.planT (id := 12) [.q [(0, [7]), (1, [49]), (2, [50]), (3, [7]), (4, [52]), (5, [53]), (6, [51]), (7, [54])] none] ?_ ?_ ?_; (focus first | (rw [hP]; kernel_rfl) | (rw [hU1P, hP]; kernel_rfl)); (focus kernel_rfl))); simp only [GA, ↓GB, GX, simprocAttr, hnt, hT, g1, g2, g3, g4, g5, g6, ga, b1, b4])
          | ((first | refine SX.skip ?_ | refine SX.exit ?_ | refine SX.label ?_ | refine SX.ret ?_); try simp only [GA, ↓GB, GX, simprocAttr])
          | (refine hN _ ?_; clear hN N)
          | ((first | refine hK _ _ (FinI.ret3 ?_) | refine hK _ _ (FinI.nrm3 ?_)); simp only [GA, ↓GB, GX, simprocAttr, finP_s, hnt, hT, g1, g2, g3, g4, g5, g6, ga, b1, b4]; refine Done.out ?_)
          | (clear hN N; first | (refine hN _ ?_; clear hN N) | (clear hN N; refine hN _ ?_; clear hN N))
          | ((first | refine SX.cond rfl (fun hb => ?_) (fun hb => ?_) | (refine bif2.mk (fun hb => ?_) (fun hb => ?_) <;> (try simp only [hb, GA, ↓GB, GX, simprocAttr, hnt, hT, g1, g2, g3, g4, g5, g6, ga, b1, b4]))) <;> ((first | cases hb | (simp only [HBs] at hb) | skip) <;> (first | (exfalso; omega) | skip)))
          | ((first | (refine Ctr.use (hp) hP hG [] ?_ rfl rfl ?_; (focus (refine LeR.of rfl trivial ?_ ?_ ?_ ?_ ?_ <;> first | decide | (simp only [GA, ↓GB, GX, simprocAttr, GDs]; done))); intro os' s hR; obtain ⟨rfl, rfl⟩ := hR)); simp only [GA, ↓GB, GX, simprocAttr, hnt, hT, g1, g2, g3, g4, g5, g6, ga, b1, b4])
          | (refine SX.block ?_)
          | (refine and_mk ?_ ?_; (focus first | decide | omega | rfl | assumption | (simp only [LBs]; omega) | (simp; done)))
          | (refine And.intro ?_ ?_))
        all_goals (try refine Done.mk ?_)
        all_goals ((refine hN0 _ _ ⟨[], _, _, ?_, ?_, ?_, ⟨rfl, rfl⟩⟩; (focus exact LeR.of rfl trivial (by simp only [GA, ↓GB, GX, simprocAttr, GDs]) (by decide) rfl rfl rfl); rotate_left; (focus rfl)); rfl)
    · have b1 : decide ((5 : Int) < ((lastN 1 es).n : Int)) = true := by simp; omega
      rw [if_neg (fun h => h1 h.2.1)]
      intro X0 hP0 hG0 N0 hN0
      refine CallVC.inline (f := 49) (by rw [hP0]; exact Tryd.func49) rfl Tryd.ntmps49 rfl (by simp) ?_
      intro X K hU hnt hbl hK
      have hP : X.P = Tryd.prog := hU.P.trans hP0
      have hG := hG0.under hU
      have hT := Ty.T49 hP
      simp only [GA, ↓GB, GX, simprocAttr] at hbl ⊢
      have hl2 := fun K => get_l2 hP hnt hbl l hll K
      simp only [hm] at hl2
      repeat' (first
        | (refine SX.join (x := .seq (.region 4 _ _) (.block 0 _)) (ι := Unit) (fun _ => ⟨[(2, .one (.c (.loc 0 0))), (3, vv (.bool false)), (5, vv (.bool true)), (7, .one (.c (.row 1)))], [rs0, .map (mE es)]⟩) (SX.select (d := ⟨[(2, .one (.c (.loc 0 0))), (3, vv (.bool false)), (4, .one (.c (.row 1))), (5, vv (.bool true)), (6, .one (.c (.row 2))), (7, .one (.c (.row 3)))], [rs0, frow l, kindMap, .map []]⟩) [0, 1, 2, 3] (LeR.of (by rw [hbl]; decide) (by simp only [GA, ↓GB, GX, simprocAttr, GDs]) (by simp only [GA, ↓GB, GX, simprocAttr, GDs]) (by decide) (by simp only [GA, ↓GB, GX, simprocAttr, GDs]) (by simp only [GA, ↓GB, GX, simprocAttr, GDs]) (by simp only [GA, ↓GB, GX, simprocAttr, GDs])) (hl2 _)) (fun _ => ?_))
        | (refine SX.seqK ?_; intro N hN)
        | ((first | (refine SX.ops ?_) | (refine SX.planT (id := 12) [.q [(0, [7]), (1, [49]), (2, [50]), (3, [7]), (4, [52]), (5, [53]), (6, [51]), (7, [54])] none] ?_ ?_ ?_; (focus first | (rw [hP]; kernel_rfl) | (rw [hU1P, hP]; kernel_rfl)); (focus kernel_rfl))); simp only [GA, ↓GB, GX, simprocAttr, hnt, hT, g1, g2, g3, g4, g5, g6, ga, b1])
        | ((first | refine SX.skip ?_ | refine SX.exit ?_ | refine SX.label ?_ | refine SX.ret ?_); try simp only [GA, ↓GB, GX, simprocAttr])
        | (refine hN _ ?_; clear hN N)
        | ((first | refine hK _ _ (FinI.ret3 ?_) | refine hK _ _ (FinI.nrm3 ?_)); simp only [GA, ↓GB, GX, simprocAttr, finP_s, hnt, hT, g1, g2, g3, g4, g5, g6, ga, b1]; refine Done.out ?_)
        | (clear hN N; first | (refine hN _ ?_; clear hN N) | (clear hN N; refine hN _ ?_; clear hN N))
        | ((first | refine SX.cond rfl (fun hb => ?_) (fun hb => ?_) | (refine bif2.mk (fun hb => ?_) (fun hb => ?_) <;> (try simp only [hb, GA, ↓GB, GX, simprocAttr, hnt, hT, g1, g2, g3, g4, g5, g6, ga, b1]))) <;> ((first | cases hb | (simp only [HBs] at hb) | skip) <;> (first | (exfalso; omega) | skip)))
        | ((first | (refine Ctr.use (hp) hP hG [] ?_ rfl rfl ?_; (focus (refine LeR.of rfl trivial ?_ ?_ ?_ ?_ ?_ <;> first | decide | (simp only [GA, ↓GB, GX, simprocAttr, GDs]; done))); intro os' s hR; obtain ⟨rfl, rfl⟩ := hR)); simp only [GA, ↓GB, GX, simprocAttr, hnt, hT, g1, g2, g3, g4, g5, g6, ga, b1])
        | (refine SX.block ?_)
        | (refine and_mk ?_ ?_; (focus first | decide | omega | rfl | assumption | (simp only [LBs]; omega) | (simp; done)))
        | (refine And.intro ?_ ?_))
      all_goals (try refine Done.mk ?_)
      all_goals ((refine hN0 _ _ ⟨[], _, _, ?_, ?_, ?_, ⟨rfl, rfl⟩⟩; (focus exact LeR.of rfl trivial (by simp only [GA, ↓GB, GX, simprocAttr, GDs]) (by decide) rfl rfl rfl); rotate_left; (focus rfl)); rfl)
  · have hok : ok = false := by simpa using hok
    subst hok
    rw [if_neg (fun h => by cases h.1)]
    intro X0 hP0 hG0 N0 hN0
    refine CallVC.inline (f := 49) (by rw [hP0]; exact Tryd.func49) rfl Tryd.ntmps49 rfl (by simp) ?_
    intro X K hU hnt hbl hK
    have hP : X.P = Tryd.prog := hU.P.trans hP0
    have hG := hG0.under hU
    have hT := Ty.T49 hP
    simp only [GA, ↓GB, GX, simprocAttr] at hbl ⊢
    have hl2 := fun K => get_l2 hP hnt hbl l hll K
    simp only [hm] at hl2
    repeat' (first
      | (refine SX.join (x := .seq (.region 4 _ _) (.block 0 _)) (ι := Unit) (fun _ => ⟨[(2, .one (.c (.loc 0 0))), (3, vv (.bool false)), (5, vv (.bool false)), (7, .one (.c (.row 1)))], [rs0, .map (mE es)]⟩) (SX.select (d := ⟨[(2, .one (.c (.loc 0 0))), (3, vv (.bool false)), (4, .one (.c (.row 1))), (5, vv (.bool true)), (6, .one (.c (.row 2))), (7, .one (.c (.row 3)))], [rs0, frow l, kindMap, .map []]⟩) [0, 1, 2, 3] (LeR.of (by rw [hbl]; decide) (by simp only [GA, ↓GB, GX, simprocAttr, GDs]) (by simp only [GA, ↓GB, GX, simprocAttr, GDs]) (by decide) (by simp only [GA, ↓GB, GX, simprocAttr, GDs]) (by simp only [GA, ↓GB, GX, simprocAttr, GDs]) (by simp only [GA, ↓GB, GX, simprocAttr, GDs])) (hl2 _)) (fun _ => ?_))
      | (refine SX.seqK ?_; intro N hN)
      | ((first | (refine SX.ops ?_) | (refine SX.planT (id := 12) [.q [(0, [7]), (1, [49]), (2, [50]), (3, [7]), (4, [52]), (5, [53]), (6, [51]), (7, [54])] none] ?_ ?_ ?_; (focus first | (rw [hP]; kernel_rfl) | (rw [hU1P, hP]; kernel_rfl)); (focus kernel_rfl))); simp only [GA, ↓GB, GX, simprocAttr, hnt, hT, g1, g2, g3, g4, g5, g6, ga])
      | ((first | refine SX.skip ?_ | refine SX.exit ?_ | refine SX.label ?_ | refine SX.ret ?_); try simp only [GA, ↓GB, GX, simprocAttr])
      | (refine hN _ ?_; clear hN N)
      | ((first | refine hK _ _ (FinI.ret3 ?_) | refine hK _ _ (FinI.nrm3 ?_)); simp only [GA, ↓GB, GX, simprocAttr, finP_s, hnt, hT, g1, g2, g3, g4, g5, g6, ga]; refine Done.out ?_)
      | (clear hN N; first | (refine hN _ ?_; clear hN N) | (clear hN N; refine hN _ ?_; clear hN N))
      | ((first | refine SX.cond rfl (fun hb => ?_) (fun hb => ?_) | (refine bif2.mk (fun hb => ?_) (fun hb => ?_) <;> (try simp only [hb, GA, ↓GB, GX, simprocAttr, hnt, hT, g1, g2, g3, g4, g5, g6, ga]))) <;> ((first | cases hb | (simp only [HBs] at hb) | skip) <;> (first | (exfalso; omega) | skip)))
      | ((first | (refine Ctr.use (hp) hP hG [] ?_ rfl rfl ?_; (focus (refine LeR.of rfl trivial ?_ ?_ ?_ ?_ ?_ <;> first | decide | (simp only [GA, ↓GB, GX, simprocAttr, GDs]; done))); intro os' s hR; obtain ⟨rfl, rfl⟩ := hR)); simp only [GA, ↓GB, GX, simprocAttr, hnt, hT, g1, g2, g3, g4, g5, g6, ga])
      | (refine SX.block ?_)
      | (refine and_mk ?_ ?_; (focus first | decide | omega | rfl | assumption | (simp only [LBs]; omega) | (simp; done)))
      | (refine And.intro ?_ ?_))
    all_goals (try refine Done.mk ?_)
    all_goals ((refine hN0 _ _ ⟨[], _, _, ?_, ?_, ?_, ⟨rfl, rfl⟩⟩; (focus exact LeR.of rfl trivial (by simp only [GA, ↓GB, GX, simprocAttr, GDs]) (by decide) rfl rfl rfl); rotate_left; (focus rfl)); rfl)
theorem getRes_ctr {e : EA} (he : e.Ok) (s : List UInt8) (hs : s.length ≤ 1099511627776) : Ctr Tryd.prog (GW e) 49 [] [vv (.string (B s))] (fun os v => os = [] ∧ v = resV (resR s)) := by
  unfold resR
  cases hl : NW.parse s with
  | none => exact getRes_none he s hs hl
  | some l => exact getRes_some he s hs hl
end Go.Proofs.YtbdacbcpniegiaaDoor
namespace Go.Proofs.YtbdacbcpniegiaaDoor.Q
open Go Go.RowKit Go.Proofs Go.Sx
theorem set_nil (x : Rs) : Ctr Tryd.prog [] 53 [] [vv (.slice none 0 0), .one (.agg [.v (.int .i64 x.t), .v (.string (B x.s)), .v (.int .u64 x.q), .v (.bool x.g), .v (.string (B x.b))])] (fun os v => os = [mrow [x]] ∧ v = .one (.c (.row 0))) := by
  obtain ⟨ms, hm⟩ : ∃ ms : List Rs, ms = [] := ⟨_, rfl⟩
  have hms : ms.length ≤ 1000000 := by rw [hm]; decide
  have hcl : (cutL x ms).length ≤ 1000000 := Nat.le_trans (List.length_filter_le _ _) hms
  have hc := cut_ctr ms hms x.t x.s
  rw [show (ms.filter fun m => !isK x.t x.s m) = cutL x ms from rfl] at hc
  have he : idxI (isO x) (cutL x ms) = -1 := by rw [hm]; rfl
  have hr : [x] = cutL x ms ++ [x] := by rw [hm]; rfl
  have hrow : LO.row 89 5 0 [] = mrow ms := by rw [hm]; rfl
  rw [hr]
  refine Ctr.less ?_
  intro X0 hP0 hG0 N0 hN0
  refine CallVC.inline (f := 53) (by rw [hP0]; exact Tryd.func53) rfl Tryd.ntmps53 rfl (by simp) ?_
  intro X K hU hnt hbl hK
  have hP : X.P = Tryd.prog := hU.P.trans hP0
  have hG := hG0.under hU
  have hT := Ty.T53 hP
  simp only [GA, ↓GB, GX, simprocAttr] at hbl ⊢
  refine SX.asRow (t := 0) 89 5 rfl ⟨_, rfl⟩ ?_
  rw [hrow]
  simp only [GA, ↓GB, GX, simprocAttr]
  repeat' (first
    | (refine SX.seqK ?_; intro N hN)
    | ((first | (refine SX.ops ?_)); simp only [GA, ↓GB, GX, simprocAttr, hnt, hT, he])
    | ((first | refine SX.skip ?_ | refine SX.exit ?_ | refine SX.label ?_ | refine SX.ret ?_); try simp only [GA, ↓GB, GX, simprocAttr])
    | (refine hN _ ?_; clear hN N)
    | ((first | refine hK _ _ (FinI.ret3 ?_) | refine hK _ _ (FinI.nrm3 ?_)); simp only [GA, ↓GB, GX, simprocAttr, finP_s, hnt, hT, he]; refine Done.out ?_)
    | ((first | refine SX.cond rfl (fun hb => ?_) (fun hb => ?_) | (refine bif2.mk (fun hb => ?_) (fun hb => ?_) <;> (try simp only [hb, GA, ↓GB, GX, simprocAttr, hnt, hT, he]))) <;> ((first | cases hb | (simp only [HBs] at hb) | skip) <;> (first | (exfalso; omega) | skip)))
    | ((first | (refine Ctr.use (hc) hP ?_ [0] ?_ rfl rfl ?_; (focus (intro p hp; cases hp)); (focus (refine LeR.of rfl trivial ?_ ?_ ?_ ?_ ?_ <;> first | decide | (simp only [GA, ↓GB, GX, simprocAttr, GDs]; done))); intro os' s hR; obtain ⟨rfl, rfl⟩ := hR) | (refine Ctr.use (indexFuncO (cutL x ms) hcl x) hP ?_ [2,1] ?_ rfl rfl ?_; (focus (intro p hp; cases hp)); (focus (refine LeR.of rfl trivial ?_ ?_ ?_ ?_ ?_ <;> first | decide | (simp only [GA, ↓GB, GX, simprocAttr, GDs]; done))); intro os' s hR; obtain ⟨rfl, rfl⟩ := hR) | (refine Ctr.use (insert_end (cutL x ms) hcl x) hP ?_ [2,3] ?_ rfl rfl ?_; (focus (intro p hp; cases hp)); (focus (refine LeR.of rfl trivial ?_ ?_ ?_ ?_ ?_ <;> first | decide | (simp only [GA, ↓GB, GX, simprocAttr, GDs]; done))); intro os' s hR; obtain ⟨rfl, rfl⟩ := hR)); simp only [GA, ↓GB, GX, simprocAttr, hnt, hT, he])
    | (refine and_mk ?_ ?_; (focus first | decide | omega | rfl | assumption | (simp only [LBs]; omega) | (simp; done)))
    | (refine And.intro ?_ ?_))
  all_goals (try refine Done.mk ?_)
  all_goals ((refine hN0 _ _ ⟨[4], _, _, ?_, ?_, ?_, ⟨rfl, rfl⟩⟩; (focus exact LeR.of rfl trivial (by simp only [GA, ↓GB, GX, simprocAttr, GDs]) (by decide) rfl rfl rfl); rotate_left; (focus rfl)); rfl)
def fsOf (r : Rs) (t : Nat) : List NW.Fld := ⟨1, 0, t, []⟩ :: ⟨2, 2, 0, r.s⟩ :: ⟨3, 0, r.q, []⟩ :: ((if r.g = true then [⟨4, 0, 1, []⟩] else []) ++ (if r.b = [] then [] else [⟨5, 2, 0, r.b⟩]))
theorem resB_encs (r : Rs) (t : Nat) : resB r t = NW.encs (fsOf r t) := by
  unfold resB fsOf
  cases r.g <;> by_cases hb : r.b = [] <;> simp [NW.encs, NW.Fld.enc, numB, textB, hb]
theorem fsOf_ok {r : Rs} (h : rightB r = true) : ∀ f ∈ fsOf r r.t.toNat, f.Ok := by
  obtain ⟨h1, h2, h3, h4, h5, h6⟩ := right_type h
  intro f hf
  have h29 : (2 : Nat) ^ 29 = 536870912 := rfl
  have h64 : (2 : Nat) ^ 64 = 18446744073709551616 := rfl
  unfold fsOf at hf
  simp only [List.mem_cons, List.mem_append] at hf
  rcases hf with rfl | rfl | rfl | hf | hf
  · exact ⟨by simp, by simp, .inl ⟨rfl, rfl, by simp only; omega⟩⟩
  · exact ⟨by simp, by simp, .inr (.inr (.inl ⟨rfl, by simp only; omega, rfl⟩))⟩
  · exact ⟨by simp, by simp, .inl ⟨rfl, rfl, by simp only; omega⟩⟩
  · split at hf
    · simp at hf; subst hf; exact ⟨by simp, by simp, .inl ⟨rfl, rfl, by simp⟩⟩
    · simp at hf
  · split at hf
    · simp at hf
    · simp at hf; subst hf; exact ⟨by simp, by simp, .inr (.inr (.inl ⟨rfl, by simp only; omega, rfl⟩))⟩
def stepT (m : LSt) (f : NW.Fld) : LSt := (stepR f m).getD m
theorem stepR_some (f : NW.Fld) (m : LSt) : stepR f m = some (stepT m f) := by
  unfold stepT
  unfold stepR
  repeat' split
  all_goals rfl
theorem takeG_fold (l : List NW.Fld) : ∀ m : LSt, (takeG stepR l m).1 = l.foldl stepT m := by
  induction l with
  | nil => intro m; rfl
  | cons f l ih => intro m; rw [takeG, stepR_some]; exact ih _
theorem resG_put {r : Rs} (h : rightB r = true) : resG ((fsOf r r.t.toNat).foldl stepT (true, [])) = some r := by
  obtain ⟨h1, h2, h3, h4, h5, h6⟩ := right_type h
  obtain ⟨t, s, q, g, b⟩ := r
  simp only at h1 h2 h3 h4 h5 h6
  obtain ⟨t, rfl⟩ : ∃ n : Nat, t = n := ⟨t.toNat, by omega⟩
  have key : ∀ m : LSt, m.1 = true → (lastN 1 m.2).n = t → (lastN 2 m.2).s = s → (lastN 3 m.2).n = q → (((lastN 4 m.2).n : Int) == 1) = g → (lastN 4 m.2).n ≤ 1 → (lastN 5 m.2).s = b → resG m = some ⟨t, s, q, g, b⟩ := by
    intro m e0 e1 e2 e3 e4 e5 e6
    have e : rsOf m.2 = ⟨t, s, q, g, b⟩ := by simp only [rsOf, e1, e2, e3, e4, e6]
    rw [resG, e, if_pos ⟨e0, by omega, e5, h⟩]
  unfold fsOf
  cases g <;> by_cases hb : b = [] <;> (apply key <;> simp [stepT, stepR, putN, findN, lastN, nilF, hb])
theorem resR_put {r : Rs} (h : rightB r = true) : resR (resB r r.t.toNat) = some r := by
  unfold resR
  rw [resB_encs, NW.parse_encs' _ (fsOf_ok h)]
  show resG (takeG stepR (fsOf r r.t.toNat) (true, [])).1 = some r
  rw [takeG_fold]
  exact resG_put h
theorem no_get : resR [] = none := by
  unfold resR; rw [NW.parse_nil]; decide
@[reducible] def r0 : Rs := ⟨2, [97], 3, false, [120]⟩
theorem r0_right : rightB r0 = true := by decide
theorem r0_bytes : resB r0 2 = [8, 2, 18, 1, 97, 24, 3, 42, 1, 120] := by
  simp [resB, numB, textB, NW.varint_lt]
theorem b0_get : resR [8, 2, 18, 1, 97, 24, 3, 42, 1, 120] = some r0 := by
  have := resR_put r0_right
  rw [show (r0.t).toNat = 2 from rfl, r0_bytes] at this
  exact this
theorem ex04_ctr {e : EA} (he : e.Ok) : Ctr Tryd.prog (GW e) 44 [] [] (fun os v => os = [] ∧ v = vv (.bool true)) := by
  have hput : ∀ w, Calls Tryd.prog 45 #[.agg #[.int .i64 2, .string (B [97]), .int .u64 3, .bool false, .string (B [120])]] w fun e w' => e = .returned (.tuple #[.string (B [8, 2, 18, 1, 97, 24, 3, 42, 1, 120]), .bool true]) ∧ Below w.heap.size w w' := fun w => by
    have := put_yes r0 r0_right w
    rw [show (r0.t).toNat = 2 from rfl, r0_bytes] at this
    exact this
  have hg : Ctr Tryd.prog (GW e) 49 [] [vv (.string (B [8, 2, 18, 1, 97, 24, 3, 42, 1, 120]))] (fun os v => os = [] ∧ v = .tup [.agg [.v (.int .i64 2), .v (.string (B [97])), .v (.int .u64 3), .v (.bool false), .v (.string (B [120]))], .c (.v (.bool true))]) := by
    have := getRes_ctr he [8, 2, 18, 1, 97, 24, 3, 42, 1, 120] (by decide)
    rw [b0_get] at this
    exact this
  have hn : Ctr Tryd.prog (GW e) 49 [] [vv (.string (B []))] (fun os v => os = [] ∧ v = .tup [.agg [.v (.int .i64 0), .v (.string (B [])), .v (.int .u64 0), .v (.bool false), .v (.string (B []))], .c (.v (.bool false))]) := by
    have := getRes_ctr he [] (by decide)
    rw [no_get] at this
    exact this
  have hs : Ctr Tryd.prog [] 53 [] [vv (.slice none 0 0), .one (.agg [.v (.int .i64 2), .v (.string (B [97])), .v (.int .u64 3), .v (.bool false), .v (.string (B [120]))])] (fun os v => os = [mrow [r0]] ∧ v = .one (.c (.row 0))) := set_nil r0
  have hf : Ctr Tryd.prog [] 54 [mrow [r0]] [.one (.c (.row 0)), .one (.agg [.v (.int .i64 2), .v (.string (B [97]))])] (fun os v => os = [mrow [r0]] ∧ v = .tup [.agg [.v (.int .i64 2), .v (.string (B [97])), .v (.int .u64 3), .v (.bool false), .v (.string (B [120]))], .c (.v (.bool true))]) := by
    have := find_ctr [r0] (by decide) 2 [97]
    rw [show List.find? (isK 2 [97]) [r0] = some r0 by decide] at this
    exact this
  refine Ctr.less ?_
  intro X0 hP0 hG0 N0 hN0
  refine CallVC.inline (f := 44) (by rw [hP0]; exact Tryd.func44) rfl Tryd.ntmps44 rfl (by simp) ?_
  intro X K hU hnt hbl hK
  have hP : X.P = Tryd.prog := hU.P.trans hP0
  have hG := hG0.under hU
  have hT := Ty.T44 hP
  simp only [GA, ↓GB, GX, simprocAttr] at hbl ⊢
  repeat' (first
    | (refine SX.seqK ?_; intro N hN)
    | ((first | (refine SX.ops ?_)); simp only [GA, ↓GB, GX, simprocAttr, hnt, hT])
    | ((first | refine SX.skip ?_ | refine SX.exit ?_ | refine SX.label ?_ | refine SX.ret ?_); try simp only [GA, ↓GB, GX, simprocAttr])
    | (refine hN _ ?_; clear hN N)
    | ((first | refine hK _ _ (FinI.ret3 ?_) | refine hK _ _ (FinI.nrm3 ?_)); simp only [GA, ↓GB, GX, simprocAttr, finP_s, hnt, hT]; refine Done.out ?_)
    | (refine bif2.mk (fun hb => ?_) (fun hb => ?_) <;> (try simp only [hb, GA, ↓GB, GX, simprocAttr, hnt, hT]) <;> ((first | cases hb | (simp only [HBs] at hb) | skip) <;> (first | (exfalso; omega) | skip)))
    | ((first | (refine CallVC.pt (l := [_, _]) hP (hput) rfl ?_) | (refine CallQ.pt (l := [_, _]) hP (hput) rfl ?_) | (refine Ctr.use (hg) hP hG [] ?_ rfl rfl ?_; (focus (refine LeR.of rfl trivial ?_ ?_ ?_ ?_ ?_ <;> first | decide | (simp only [GA, ↓GB, GX, simprocAttr, GDs]; done))); intro os' s hR; obtain ⟨rfl, rfl⟩ := hR) | (refine Ctr.use (hn) hP hG [] ?_ rfl rfl ?_; (focus (refine LeR.of rfl trivial ?_ ?_ ?_ ?_ ?_ <;> first | decide | (simp only [GA, ↓GB, GX, simprocAttr, GDs]; done))); intro os' s hR; obtain ⟨rfl, rfl⟩ := hR) | (refine Ctr.use (hs) hP ?_ [] ?_ rfl rfl ?_; (focus (intro p hp; cases hp)); (focus (refine LeR.of rfl trivial ?_ ?_ ?_ ?_ ?_ <;> first | decide | (simp only [GA, ↓GB, GX, simprocAttr, GDs]; done))); intro os' s hR; obtain ⟨rfl, rfl⟩ := hR) | (refine Ctr.use (hf) hP ?_ [3] ?_ rfl rfl ?_; (focus (intro p hp; cases hp)); (focus (refine LeR.of rfl trivial ?_ ?_ ?_ ?_ ?_ <;> first | decide | (simp only [GA, ↓GB, GX, simprocAttr, GDs]; done))); intro os' s hR; obtain ⟨rfl, rfl⟩ := hR)); simp only [GA, ↓GB, GX, simprocAttr, hnt, hT])
    | (refine ⟨_, strEq_to hP (Ty.eqS89 _ _ _ _ _ _ _ _ _ _), ?_⟩)
    | (refine and_mk ?_ ?_; (focus first | decide | omega | rfl | assumption | (simp only [LBs]; omega) | (simp; done)))
    | (refine And.intro ?_ ?_))
  all_goals (try refine Done.mk ?_)
  all_goals ((refine hN0 _ _ ⟨[], _, _, ?_, ?_, ?_, ⟨rfl, rfl⟩⟩; (focus exact LeR.of rfl trivial (by simp only [GA, ↓GB, GX, simprocAttr, GDs]) (by decide) rfl rfl rfl); rotate_left; (focus rfl)); rfl)
def wordL (n : Nat) : List UInt8 := [[97], [98], [99, 47, 100], [101, 46, 102], [103, 45, 49], [122, 122]].getD (n % 6) []
theorem word_any (n : Nat) (w : World) : Calls Tryd.prog 105 #[.int .u8 n] w fun x w' => x = .returned (.string (B (wordL n))) ∧ Below w.heap.size w w' := by
  have hm : (n : Int).tmod 6 = ((n % 6 : Nat) : Int) := by rw [Int.tmod_eq_emod_of_nonneg (by omega)]; rfl
  have h6 : n % 6 < 6 := Nat.mod_lt _ (by decide)
  unfold wordL
  generalize n % 6 = k at hm h6 ⊢
  have hc : k = 0 ∨ k = 1 ∨ k = 2 ∨ k = 3 ∨ k = 4 ∨ k = 5 := by omega
  rcases hc with rfl | rfl | rfl | rfl | rfl | rfl
  · refine calls_pureK (args := [.int .u8 n]) w Tryd.func105 rfl Tryd.ntmps105 (by simp) ?_
    intro X K hX hK
    have hnt : X.nt = 8 := by rw [hX]
    have hwi : X.wi = w := by rw [hX]
    have hP : X.P = Tryd.prog := by rw [hX]
    have hown : X.own = [] := by rw [hX]
    have hbl : X.base.length = 0 := by rw [hX]; rfl
    clear hX
    have hT := Ty.T105 hP
    repeat' (first
      | (refine SX.seqK ?_; intro N hN)
      | ((first | (refine SX.ops ?_)); simp only [GA, ↓GB, GX, simprocAttr, hnt, hT, hm])
      | ((first | refine SX.skip ?_ | refine SX.exit ?_ | refine SX.label ?_ | refine SX.ret ?_); try simp only [GA, ↓GB, GX, simprocAttr])
      | (refine hN _ ?_; clear hN N)
      | (refine hK _ _ (Fin.res rfl hown ?_); simp only [GA, ↓GB, GX, simprocAttr, f_a, f_b, f_n, f_c, f_B, f_v, f_g, f_0, f_1, f_2, hT, hwi, hm]; intro w' hbel; refine Done.out ?_)
      | (refine bif2.mk (fun hb => ?_) (fun hb => ?_) <;> (try simp only [hb, GA, ↓GB, GX, simprocAttr, hnt, hT, hm]) <;> ((first | cases hb | (simp only [HBs] at hb) | skip) <;> (first | (exfalso; omega) | skip)))
      | (refine and_mk ?_ ?_; (focus first | decide | omega | rfl | assumption | (simp only [LBs]; omega) | (simp; done)))
      | (refine And.intro ?_ ?_))
    all_goals (try refine Done.mk ?_)
    all_goals first | exact hbel | exact ⟨rfl, hbel⟩
  · refine calls_pureK (args := [.int .u8 n]) w Tryd.func105 rfl Tryd.ntmps105 (by simp) ?_
    intro X K hX hK
    have hnt : X.nt = 8 := by rw [hX]
    have hwi : X.wi = w := by rw [hX]
    have hP : X.P = Tryd.prog := by rw [hX]
    have hown : X.own = [] := by rw [hX]
    have hbl : X.base.length = 0 := by rw [hX]; rfl
    clear hX
    have hT := Ty.T105 hP
    repeat' (first
      | (refine SX.seqK ?_; intro N hN)
      | ((first | (refine SX.ops ?_)); simp only [GA, ↓GB, GX, simprocAttr, hnt, hT, hm])
      | ((first | refine SX.skip ?_ | refine SX.exit ?_ | refine SX.label ?_ | refine SX.ret ?_); try simp only [GA, ↓GB, GX, simprocAttr])
      | (refine hN _ ?_; clear hN N)
      | (refine hK _ _ (Fin.res rfl hown ?_); simp only [GA, ↓GB, GX, simprocAttr, f_a, f_b, f_n, f_c, f_B, f_v, f_g, f_0, f_1, f_2, hT, hwi, hm]; intro w' hbel; refine Done.out ?_)
      | (refine bif2.mk (fun hb => ?_) (fun hb => ?_) <;> (try simp only [hb, GA, ↓GB, GX, simprocAttr, hnt, hT, hm]) <;> ((first | cases hb | (simp only [HBs] at hb) | skip) <;> (first | (exfalso; omega) | skip)))
      | (refine and_mk ?_ ?_; (focus first | decide | omega | rfl | assumption | (simp only [LBs]; omega) | (simp; done)))
      | (refine And.intro ?_ ?_))
    all_goals (try refine Done.mk ?_)
    all_goals first | exact hbel | exact ⟨rfl, hbel⟩
  · refine calls_pureK (args := [.int .u8 n]) w Tryd.func105 rfl Tryd.ntmps105 (by simp) ?_
    intro X K hX hK
    have hnt : X.nt = 8 := by rw [hX]
    have hwi : X.wi = w := by rw [hX]
    have hP : X.P = Tryd.prog := by rw [hX]
    have hown : X.own = [] := by rw [hX]
    have hbl : X.base.length = 0 := by rw [hX]; rfl
    clear hX
    have hT := Ty.T105 hP
    repeat' (first
      | (refine SX.seqK ?_; intro N hN)
      | ((first | (refine SX.ops ?_)); simp only [GA, ↓GB, GX, simprocAttr, hnt, hT, hm])
      | ((first | refine SX.skip ?_ | refine SX.exit ?_ | refine SX.label ?_ | refine SX.ret ?_); try simp only [GA, ↓GB, GX, simprocAttr])
      | (refine hN _ ?_; clear hN N)
      | (refine hK _ _ (Fin.res rfl hown ?_); simp only [GA, ↓GB, GX, simprocAttr, f_a, f_b, f_n, f_c, f_B, f_v, f_g, f_0, f_1, f_2, hT, hwi, hm]; intro w' hbel; refine Done.out ?_)
      | (refine bif2.mk (fun hb => ?_) (fun hb => ?_) <;> (try simp only [hb, GA, ↓GB, GX, simprocAttr, hnt, hT, hm]) <;> ((first | cases hb | (simp only [HBs] at hb) | skip) <;> (first | (exfalso; omega) | skip)))
      | (refine and_mk ?_ ?_; (focus first | decide | omega | rfl | assumption | (simp only [LBs]; omega) | (simp; done)))
      | (refine And.intro ?_ ?_))
    all_goals (try refine Done.mk ?_)
    all_goals first | exact hbel | exact ⟨rfl, hbel⟩
  · refine calls_pureK (args := [.int .u8 n]) w Tryd.func105 rfl Tryd.ntmps105 (by simp) ?_
    intro X K hX hK
    have hnt : X.nt = 8 := by rw [hX]
    have hwi : X.wi = w := by rw [hX]
    have hP : X.P = Tryd.prog := by rw [hX]
    have hown : X.own = [] := by rw [hX]
    have hbl : X.base.length = 0 := by rw [hX]; rfl
    clear hX
    have hT := Ty.T105 hP
    repeat' (first
      | (refine SX.seqK ?_; intro N hN)
      | ((first | (refine SX.ops ?_)); simp only [GA, ↓GB, GX, simprocAttr, hnt, hT, hm])
      | ((first | refine SX.skip ?_ | refine SX.exit ?_ | refine SX.label ?_ | refine SX.ret ?_); try simp only [GA, ↓GB, GX, simprocAttr])
      | (refine hN _ ?_; clear hN N)
      | (refine hK _ _ (Fin.res rfl hown ?_); simp only [GA, ↓GB, GX, simprocAttr, f_a, f_b, f_n, f_c, f_B, f_v, f_g, f_0, f_1, f_2, hT, hwi, hm]; intro w' hbel; refine Done.out ?_)
      | (refine bif2.mk (fun hb => ?_) (fun hb => ?_) <;> (try simp only [hb, GA, ↓GB, GX, simprocAttr, hnt, hT, hm]) <;> ((first | cases hb | (simp only [HBs] at hb) | skip) <;> (first | (exfalso; omega) | skip)))
      | (refine and_mk ?_ ?_; (focus first | decide | omega | rfl | assumption | (simp only [LBs]; omega) | (simp; done)))
      | (refine And.intro ?_ ?_))
    all_goals (try refine Done.mk ?_)
    all_goals first | exact hbel | exact ⟨rfl, hbel⟩
  · refine calls_pureK (args := [.int .u8 n]) w Tryd.func105 rfl Tryd.ntmps105 (by simp) ?_
    intro X K hX hK
    have hnt : X.nt = 8 := by rw [hX]
    have hwi : X.wi = w := by rw [hX]
    have hP : X.P = Tryd.prog := by rw [hX]
    have hown : X.own = [] := by rw [hX]
    have hbl : X.base.length = 0 := by rw [hX]; rfl
    clear hX
    have hT := Ty.T105 hP
    repeat' (first
      | (refine SX.seqK ?_; intro N hN)
      | ((first | (refine SX.ops ?_)); simp only [GA, ↓GB, GX, simprocAttr, hnt, hT, hm])
      | ((first | refine SX.skip ?_ | refine SX.exit ?_ | refine SX.label ?_ | refine SX.ret ?_); try simp only [GA, ↓GB, GX, simprocAttr])
      | (refine hN _ ?_; clear hN N)
      | (refine hK _ _ (Fin.res rfl hown ?_); simp only [GA, ↓GB, GX, simprocAttr, f_a, f_b, f_n, f_c, f_B, f_v, f_g, f_0, f_1, f_2, hT, hwi, hm]; intro w' hbel; refine Done.out ?_)
      | (refine bif2.mk (fun hb => ?_) (fun hb => ?_) <;> (try simp only [hb, GA, ↓GB, GX, simprocAttr, hnt, hT, hm]) <;> ((first | cases hb | (simp only [HBs] at hb) | skip) <;> (first | (exfalso; omega) | skip)))
      | (refine and_mk ?_ ?_; (focus first | decide | omega | rfl | assumption | (simp only [LBs]; omega) | (simp; done)))
      | (refine And.intro ?_ ?_))
    all_goals (try refine Done.mk ?_)
    all_goals first | exact hbel | exact ⟨rfl, hbel⟩
  · refine calls_pureK (args := [.int .u8 n]) w Tryd.func105 rfl Tryd.ntmps105 (by simp) ?_
    intro X K hX hK
    have hnt : X.nt = 8 := by rw [hX]
    have hwi : X.wi = w := by rw [hX]
    have hP : X.P = Tryd.prog := by rw [hX]
    have hown : X.own = [] := by rw [hX]
    have hbl : X.base.length = 0 := by rw [hX]; rfl
    clear hX
    have hT := Ty.T105 hP
    repeat' (first
      | (refine SX.seqK ?_; intro N hN)
      | ((first | (refine SX.ops ?_)); simp only [GA, ↓GB, GX, simprocAttr, hnt, hT, hm])
      | ((first | refine SX.skip ?_ | refine SX.exit ?_ | refine SX.label ?_ | refine SX.ret ?_); try simp only [GA, ↓GB, GX, simprocAttr])
      | (refine hN _ ?_; clear hN N)
      | (refine hK _ _ (Fin.res rfl hown ?_); simp only [GA, ↓GB, GX, simprocAttr, f_a, f_b, f_n, f_c, f_B, f_v, f_g, f_0, f_1, f_2, hT, hwi, hm]; intro w' hbel; refine Done.out ?_)
      | (refine bif2.mk (fun hb => ?_) (fun hb => ?_) <;> (try simp only [hb, GA, ↓GB, GX, simprocAttr, hnt, hT, hm]) <;> ((first | cases hb | (simp only [HBs] at hb) | skip) <;> (first | (exfalso; omega) | skip)))
      | (refine and_mk ?_ ?_; (focus first | decide | omega | rfl | assumption | (simp only [LBs]; omega) | (simp; done)))
      | (refine And.intro ?_ ?_))
    all_goals (try refine Done.mk ?_)
    all_goals first | exact hbel | exact ⟨rfl, hbel⟩
structure Th where
  r : Rs
  own : Bool
  nm : Nat
deriving Inhabited
theorem thing_no (t : Int) (s b : List UInt8) (q : Nat) (g : Bool) (nm : Nat) (w : World) : Calls Tryd.prog 46 #[.agg #[.int .i64 t, .string (B s), .int .u64 q, .bool g, .string (B b), .bool false, .int .u8 nm]] w
    fun x w' => x = .returned (.agg #[.int .i64 t, .string (B s), .int .u64 q, .bool g, .string (B b)]) ∧ Below w.heap.size w w' := by
  refine calls_pureK (args := [.agg #[.int .i64 t, .string (B s), .int .u64 q, .bool g, .string (B b), .bool false, .int .u8 nm]]) w Tryd.func46 rfl Tryd.ntmps46 (by simp) ?_
  intro X K hX hK
  have hnt : X.nt = 49 := by rw [hX]
  have hwi : X.wi = w := by rw [hX]
  have hP : X.P = Tryd.prog := by rw [hX]
  have hown : X.own = [] := by rw [hX]
  have hbl : X.base.length = 0 := by rw [hX]; rfl
  clear hX
  have hT := Ty.T46 hP
  repeat' (first
    | (refine SX.seqK ?_; intro N hN)
    | ((first | (refine SX.ops ?_)); simp only [GA, ↓GB, GX, simprocAttr, hnt, hT])
    | ((first | refine SX.skip ?_ | refine SX.exit ?_ | refine SX.label ?_ | refine SX.ret ?_); try simp only [GA, ↓GB, GX, simprocAttr])
    | (refine hN _ ?_; clear hN N)
    | (refine hK _ _ (Fin.res rfl hown ?_); simp only [GA, ↓GB, GX, simprocAttr, f_a, f_b, f_n, f_c, f_B, f_v, f_g, f_0, f_1, f_2, hT, hwi]; intro w' hbel; refine Done.out ?_)
    | ((first | refine SX.cond rfl (fun hb => ?_) (fun hb => ?_) | (refine bif2.mk (fun hb => ?_) (fun hb => ?_) <;> (try simp only [hb, GA, ↓GB, GX, simprocAttr, hnt, hT]))) <;> ((first | cases hb | (simp only [HBs] at hb) | skip) <;> (first | (exfalso; omega) | skip)))
    | (refine and_mk ?_ ?_; (focus first | decide | omega | rfl | assumption | (simp only [LBs]; omega) | (simp; done)))
    | (refine And.intro ?_ ?_))
  all_goals (try refine Done.mk ?_)
  all_goals first | exact hbel | exact ⟨rfl, hbel⟩
def tN (t : Int) : Nat := 1 + ((t % 18446744073709551616) % 5).toNat
def thG (g : Bool) (nm : Nat) : Bool := g && decide (nm % 4 = 0)
def thB (b : List UInt8) (g : Bool) (nm : Nat) : List UInt8 := if thG g nm = true then [] else b.take 200
theorem thing_yes (t : Int) (s b : List UInt8) (q : Nat) (g : Bool) (nm : Nat) (w : World) : Calls Tryd.prog 46 #[.agg #[.int .i64 t, .string (B s), .int .u64 q, .bool g, .string (B b), .bool true, .int .u8 nm]] w
    fun x w' => x = .returned (.agg #[.int .i64 (tN t), .string (B (wordL nm)), .int .u64 ((1 + q % 20 : Nat)), .bool (thG g nm), .string (B (thB b g nm))]) ∧ Below w.heap.size w w' := by
  have m0 : 0 ≤ t % 18446744073709551616 := Int.emod_nonneg _ (by decide)
  have h1 : IntKind.i64.wrap (1 + IntKind.i64.wrap ((IntKind.u64.wrap t).tmod 5)) = (tN t : Int) := by
    rw [IntKind.wrap_u64, Int.tmod_eq_emod_of_nonneg m0, wI64 (x := t % 18446744073709551616 % 5) (by omega) (by omega), wI64 (by omega) (by omega), tN]; omega
  have h2 : IntKind.u64.wrap (1 + (q : Int).tmod 20) = ((1 + q % 20 : Nat) : Int) := by
    rw [Int.tmod_eq_emod_of_nonneg (by omega), wU64 (by omega) (by omega)]; omega
  have h3 : ((nm : Int).tmod 4 == 0) = decide (nm % 4 = 0) := by
    rw [Int.tmod_eq_emod_of_nonneg (by omega)]
    by_cases h : nm % 4 = 0
    · rw [decide_eq_true h]; simp; omega
    · rw [decide_eq_false h]; simp; omega
  have h4 : (if 200 < (b.length : Int) then (200 : Int) else (b.length : Int)).toNat = min b.length 200 := by split <;> omega
  have h5 : b.take (min b.length 200) = b.take 200 := by rw [Nat.min_comm, ← List.take_take, List.take_length]
  refine calls_pureK (args := [.agg #[.int .i64 t, .string (B s), .int .u64 q, .bool g, .string (B b), .bool true, .int .u8 nm]]) w Tryd.func46 rfl Tryd.ntmps46 (by simp) ?_
  intro X K hX hK
  have hnt : X.nt = 49 := by rw [hX]
  have hwi : X.wi = w := by rw [hX]
  have hP : X.P = Tryd.prog := by rw [hX]
  have hown : X.own = [] := by rw [hX]
  have hbl : X.base.length = 0 := by rw [hX]; rfl
  clear hX
  have hT := Ty.T46 hP
  repeat' (first
    | (refine SX.seqK ?_; intro N hN)
    | ((first | (refine SX.ops ?_) | (refine SX.planT (id := 3) [.q [(0, [1]), (1, [9]), (2, [10]), (3, [11]), (4, [12]), (5, [13]), (6, [14]), (7, [15]), (8, [1]), (9, [17]), (10, [18]), (11, [16, 19]), (12, [1]), (13, [21]), (14, [22]), (15, [23]), (16, [24]), (17, [1]), (18, [26]), (19, [27]), (20, [28]), (21, [1, 29]), (22, [30, 29]), (23, [31, 29]), (24, [32, 29]), (25, [29, 33]), (26, [1]), (27, [35]), (28, [36]), (29, [1]), (30, [38]), (31, [39]), (32, [40]), (33, [41]), (34, [37, 42]), (35, [20, 25, 34, 43])] (some (36, [])), .s 37] ?_ ?_ ?_; (focus first | (rw [hP]; kernel_rfl) | (rw [hU1P, hP]; kernel_rfl)); (focus kernel_rfl))); simp only [GA, ↓GB, GX, simprocAttr, hnt, hT, h1, h2, h3, h4, h5, Nat.sub_zero])
    | ((first | refine SX.skip ?_ | refine SX.exit ?_ | refine SX.label ?_ | refine SX.ret ?_); try simp only [GA, ↓GB, GX, simprocAttr])
    | (refine hN _ ?_; clear hN N)
    | (refine hK _ _ (Fin.res rfl hown ?_); simp only [GA, ↓GB, GX, simprocAttr, f_a, f_b, f_n, f_c, f_B, f_v, f_g, f_0, f_1, f_2, hT, hwi, h1, h2, h3, h4, h5, Nat.sub_zero]; intro w' hbel; refine Done.out ?_)
    | ((first | refine SX.cond rfl (fun hb => ?_) (fun hb => ?_) | (refine bif2.mk (fun hb => ?_) (fun hb => ?_) <;> (try simp only [hb, GA, ↓GB, GX, simprocAttr, hnt, hT, h1, h2, h3, h4, h5, Nat.sub_zero]))) <;> ((first | cases hb | (simp only [HBs] at hb) | skip) <;> (first | (exfalso; omega) | skip)))
    | ((first | (refine CallVC.pv hP (word_any nm) rfl ?_) | (refine CallQ.pv hP (word_any nm) rfl ?_)); simp only [GA, ↓GB, GX, simprocAttr, hnt, hT, h1, h2, h3, h4, h5, Nat.sub_zero])
    | (refine and_mk ?_ ?_; (focus first | decide | omega | rfl | assumption | (simp only [LBs]; omega) | (simp; done)))
    | (refine And.intro ?_ ?_))
  all_goals (try refine Done.mk ?_)
  all_goals first
    | exact hbel
    | (refine ⟨?_, hbel⟩; clear hK hT hP hnt hwi hown hbl; simp_all [thG, thB])
def thL (r : Rs) (nm : Nat) : Rs := ⟨tN r.t, wordL nm, 1 + r.q % 20, thG r.g nm, thB r.b r.g nm⟩
theorem word_ok (n : Nat) : nameB (wordL n) = true ∧ (wordL n == [42]) = false ∧ nameB (wordL n ++ [48]) = true ∧ (wordL n ++ [48] == [42]) = false := by
  have h6 : n % 6 < 6 := Nat.mod_lt _ (by decide)
  unfold wordL
  generalize n % 6 = k at h6 ⊢
  have hc : k = 0 ∨ k = 1 ∨ k = 2 ∨ k = 3 ∨ k = 4 ∨ k = 5 := by omega
  rcases hc with rfl | rfl | rfl | rfl | rfl | rfl <;> decide
theorem right_mk {x : Rs} (h1 : 1 ≤ x.t) (h2 : x.t ≤ 5) (h3 : nameB x.s = true) (h4 : (x.s == [42]) = false) (h5 : x.b.length ≤ 1024) (h6 : x.g = true → x.b = []) (h7 : 0 < x.q) (h8 : x.q ≤ 4611686018427387904) : rightB x = true := by
  simp only [rightB, keyB, h3, h4, Bool.or_true, Bool.and_true, Bool.not_false, Bool.and_eq_true, decide_eq_true_eq, Bool.not_eq_true', Bool.and_eq_false_iff, Bool.not_eq_false', beq_iff_eq]
  refine ⟨⟨⟨⟨⟨h1, h2⟩, by omega⟩, ?_⟩, by omega⟩, by omega⟩
  cases hg : x.g with
  | false => exact .inl rfl
  | true => exact .inr (h6 hg)
theorem tN_bd (t : Int) : 1 ≤ tN t ∧ tN t ≤ 5 := by unfold tN; omega
theorem thB_ok (b : List UInt8) (g : Bool) (nm : Nat) : (thB b g nm).length ≤ 200 ∧ (thG g nm = true → thB b g nm = []) := by
  unfold thB
  split
  · exact ⟨by simp, fun _ => rfl⟩
  · rename_i h; exact ⟨by simp; omega, fun h' => absurd h' h⟩
theorem thL_right (r : Rs) (nm : Nat) : rightB (thL r nm) = true := by
  obtain ⟨a1, a2⟩ := tN_bd r.t
  obtain ⟨b1, b2, b3, b4⟩ := word_ok nm
  obtain ⟨c1, c2⟩ := thB_ok r.b r.g nm
  refine right_mk ?_ ?_ b1 b2 ?_ c2 ?_ ?_ <;> simp only [thL] <;> omega
end Go.Proofs.YtbdacbcpniegiaaDoor.Q
namespace Go.Proofs.YtbdacbcpniegiaaDoor.Q
open Go Go.RowKit Go.Proofs Go.Sx Go.ChangeShapes
theorem star : "*" ++ "errors.errorString" = "*errors.errorString" := by decide
theorem row253 (u : TypeId) (h : Tryd.prog.typeName? 3 u = some "*errors.errorString") : u = 253 :=
  typeName_ptr_named (nm := "errors.errorString") (by rw [star]; kernel_rfl) (by kernel_rfl) (by decide) u (by rw [star]; exact h)
theorem nShort : Tryd.prog.globalNamed "noria/wire.errShort" = some 2 := by kernel_rfl
theorem nWrong : Tryd.prog.globalNamed "noria/wire.errWrong" = some 3 := by kernel_rfl
theorem tShort : (Tryd.prog.globals[2]?).map (·.type) = some 125 := by kernel_rfl
theorem tWrong : (Tryd.prog.globals[3]?).map (·.type) = some 125 := by kernel_rfl
theorem c277 : Tryd.prog.cellsOf 277 = 1 := by kernel_rfl
theorem c9 : Tryd.prog.cellsOf 9 = 1 := by kernel_rfl
theorem gw_of_laid {W : World} {n0 n3 : String} {d0 d3 : DataW Unit} (h : laidMet Tryd.prog [(n0, d0), ("noria/wire.errShort", Rows.laid_noria_wire_errShort), ("noria/wire.errWrong", Rows.laid_noria_wire_errWrong), (n3, d3)] W) :
    ∃ e : EA, e.Ok ∧ ∀ p ∈ GW e, W.cell? p.1 = some p.2 ∧ loneStr W p := by
  obtain ⟨ps, ⟨gx, tx, csx, fx, px, qx, hgx, htx, hvx, hdx, ⟨g0, t0, cs0, f0, p0, q0, hg0, ht0, hv0, hd0, ⟨g1, t1, cs1, f1, p1, q1, hg1, ht1, hv1, hd1, hq1, e1⟩, e0⟩, ex⟩, hnd, hrows⟩ := h
  obtain rfl := Option.some.inj (nShort.symm.trans hg0)
  obtain rfl := Option.some.inj (nWrong.symm.trans hg1)
  obtain rfl := Option.some.inj (tShort.symm.trans ht0)
  obtain rfl := Option.some.inj (tWrong.symm.trans ht1)
  subst e1
  subst e0
  subst ex
  obtain ⟨l0⟩ := cs0
  obtain ⟨l1⟩ := cs1
  have ok0 : ∀ u v, l0 = [.iface u v] → Value.okWide Tryd.prog W .any 0 u v := fun u v e => by
    subst e
    exact (hrows 2 0 (by simp [MemPlace.row])).2 u v (by simpa using World.var?_cell hg0 hv0 0)
  have ok1 : ∀ u v, l1 = [.iface u v] → Value.okWide Tryd.prog W .any 0 u v := fun u v e => by
    subst e
    exact (hrows 3 0 (by simp [MemPlace.row])).2 u v (by simpa using World.var?_cell hg1 hv1 0)
  obtain ⟨a0, s0, rfl, hc0, hs0, hz0, rfl⟩ := errorString_of_trod Tryd.underlying125 row253 Tryd.underlying253 Tryd.underlying277 rfl rfl Tryd.underlying9 c277 c9 hd0 ok0
  obtain ⟨a1, s1, rfl, hc1, hs1, hz1, rfl⟩ := errorString_of_trod Tryd.underlying125 row253 Tryd.underlying253 Tryd.underlying277 rfl rfl Tryd.underlying9 c277 c9 hd1 ok1
  obtain ⟨b0, u0, hb0⟩ := (hrows a0.block a0.off (by simp [MemPlace.row])).1
  obtain ⟨b1, u1, hb1⟩ := (hrows a1.block a1.off (by simp [MemPlace.row])).1
  have hx0 : W.cell? ⟨2, 0, none⟩ = some (errV a0) := by simpa using World.var?_cell hg0 hv0 0
  have hx1 : W.cell? ⟨3, 0, none⟩ = some (errV a1) := by simpa using World.var?_cell hg1 hv1 0
  have key : ∀ (s : ByteArray) (l : List UInt8), s.data.toList = l → s = B l := fun s l h => by
    obtain ⟨⟨x⟩⟩ := s
    have h : x = l := h
    rw [h]; rfl
  have es0 : s0 = B tS := key _ _ hs0
  have es1 : s1 = B tW := key _ _ hs1
  rw [es0] at hc0
  rw [es1] at hc1
  refine ⟨⟨⟨0, 0, none⟩, ⟨1, 0, none⟩, a0, a1⟩, ⟨by simp, ?_⟩, ?_⟩
  · show a0 ≠ a1
    rintro rfl
    have h2 := (List.nodup_append.1 hnd).2.1
    simp [MemPlace.row] at h2
  · intro p hp
    simp only [GW, List.mem_cons, List.not_mem_nil, or_false] at hp
    rcases hp with rfl | rfl | rfl | rfl
    · exact ⟨hx0, trivial⟩
    · exact ⟨hx1, trivial⟩
    · exact ⟨hc0, _, _, hb0⟩
    · exact ⟨hc1, _, _, hb1⟩
theorem ctr_calls {P : Program} {G : List (Addr × Value)} {f : FuncId} {args : List SV} {R : List LO → SV → Prop} (h : Ctr P G f [] args R) (w : World) (hG : ∀ p ∈ G, w.cell? p.1 = some p.2 ∧ loneStr w p) {vals : List Value} (ha : All2 (DV []) args vals) :
    Calls P f vals.toArray w fun e w' => ∃ v os' s σ', e = .returned v ∧ R os' s ∧ DV σ' s v ∧ Below w.heap.size w w' := by
  have hr : Rel ⟨P, w, [], 0, []⟩ ⟨[], []⟩ [] [] { tmps := #[], defers := [] } w :=
    ⟨fun t s h => by simp at h, rfl, rfl, fun i o fp v h => by simp at h, by simp, fun b h => by simp at h, fun b h => by simp at h, Fr.refl _ _, rfl, rfl, fun v h => by simp at h, fun i v h => by simp at h⟩
  refine (h ⟨P, w, [], 0, []⟩ rfl (fun p hp => ⟨(hG p hp).1, by simp, (hG p hp).2⟩) (fun c s => ∃ os', c = ⟨[], os'⟩ ∧ R os' s) (fun os' s hR => ⟨os', rfl, hR⟩) _ _ _ _ hr vals ha).mono ?_
  rintro e w' ⟨v, c', ρ', σ', s, rfl, hr', hd, os', rfl, hR⟩
  exact ⟨v, os', s, σ', rfl, hR, hd, hr'.low.below (by simp)⟩
end Go.Proofs.YtbdacbcpniegiaaDoor.Q
namespace Go.Proofs.YtbdacbcpniegiaaDoor.Q
open Go Go.RowKit Go.ChangeShapes Go.WideShapes Go.ChangeAt Go.Sx Go.Proofs.YtbdacbcpniegiaaDoor
structure RsOk (r : Rs) : Prop where
  t0 : -9223372036854775808 ≤ r.t
  t1 : r.t < 9223372036854775808
  s : r.s.length ≤ 9223372036854775807
  q : r.q < 18446744073709551616
  b : r.b.length ≤ 9223372036854775807
def Th.cells (x : Th) : List Value := x.r.cells ++ [.bool x.own, .int .u8 (x.nm : Int)]
structure Th.Ok (x : Th) : Prop where
  r : RsOk x.r
  nm : x.nm < 256
theorem key_cells {H : Type} {enc : TypeId × Value → H} {W : World} {sp : Nat → Bool} {held : Bool} {n base : Nat} {cs : List Value} {x : DataW H × List MemPlace}
    (h : DataW.trod enc Tryd.prog W base sp held n 26 cs = some x) : ∃ (t : Int) (s : List UInt8), -9223372036854775808 ≤ t ∧ t < 9223372036854775808 ∧ s.length ≤ 9223372036854775807 ∧ cs = [.int .i64 t, .string (B s)] := by
  obtain ⟨zs, m2, rfl, _, hl2, hzs, hf2⟩ := DataW.trod_struct Tryd.underlying26 h
  have c26 : Tryd.prog.cellsOf 26 = 2 := by kernel_rfl
  have c3 : Tryd.prog.cellsOf 3 = 1 := by kernel_rfl
  have c9 : Tryd.prog.cellsOf 9 = 1 := by kernel_rfl
  rw [c26] at hl2
  have k0 : DataW.trod enc Tryd.prog W base sp held m2 3 ((cs.drop 0).take (Tryd.prog.cellsOf 3)) = zs[0]? := hf2 0 _ rfl
  have k1 : DataW.trod enc Tryd.prog W base sp held m2 9 ((cs.drop 1).take (Tryd.prog.cellsOf 9)) = zs[1]? := hf2 1 _ rfl
  have hz2 : zs.length = 2 := hzs
  rw [c3, List.getElem?_eq_getElem (by omega)] at k0
  rw [c9, List.getElem?_eq_getElem (by omega)] at k1
  obtain ⟨a2, e2, _, w2⟩ := DataW.trod_int Tryd.underlying3 k0
  obtain ⟨a3, e3, _, w3⟩ := DataW.trod_string Tryd.underlying9 k1
  have f2 := at1 e2
  have f3 := at1 e3
  have b2 := i64_of w2
  refine ⟨a2, a3.data.toList, b2.1, b2.2, by simpa [maxLen] using w3, ?_⟩
  match cs, hl2 with
  | [x0, x1], _ =>
    simp only [List.getElem?_cons_zero, List.getElem?_cons_succ, Option.some.injEq] at f2 f3
    subst f2 f3
    simp only [B_data]
theorem res_cells {H : Type} {enc : TypeId × Value → H} {W : World} {sp : Nat → Bool} {held : Bool} {n base : Nat} {cs : List Value} {x : DataW H × List MemPlace}
    (h : DataW.trod enc Tryd.prog W base sp held n 89 cs = some x) : ∃ r : Rs, RsOk r ∧ cs = r.cells := by
  obtain ⟨ys, m, rfl, _, hl, hys, hf⟩ := DataW.trod_struct Tryd.underlying89 h
  have c89 : Tryd.prog.cellsOf 89 = 5 := by kernel_rfl
  have c26 : Tryd.prog.cellsOf 26 = 2 := by kernel_rfl
  have c9 : Tryd.prog.cellsOf 9 = 1 := by kernel_rfl
  have c22 : Tryd.prog.cellsOf 22 = 1 := by kernel_rfl
  have c4 : Tryd.prog.cellsOf 4 = 1 := by kernel_rfl
  rw [c89] at hl
  have g2 : DataW.trod enc Tryd.prog W base sp held m 26 ((cs.drop 0).take (Tryd.prog.cellsOf 26)) = ys[0]? := hf 0 _ rfl
  have g3 : DataW.trod enc Tryd.prog W base sp held m 22 ((cs.drop 2).take (Tryd.prog.cellsOf 22)) = ys[1]? := hf 1 _ rfl
  have g4 : DataW.trod enc Tryd.prog W base sp held m 4 ((cs.drop 3).take (Tryd.prog.cellsOf 4)) = ys[2]? := hf 2 _ rfl
  have g5 : DataW.trod enc Tryd.prog W base sp held m 9 ((cs.drop 4).take (Tryd.prog.cellsOf 9)) = ys[3]? := hf 3 _ rfl
  have hy4 : ys.length = 4 := hys
  rw [c26, List.getElem?_eq_getElem (by omega)] at g2
  rw [c22, List.getElem?_eq_getElem (by omega)] at g3
  rw [c4, List.getElem?_eq_getElem (by omega)] at g4
  rw [c9, List.getElem?_eq_getElem (by omega)] at g5
  obtain ⟨a2, a3, t0, t1, w3, ek⟩ := key_cells g2
  obtain ⟨a4, e4, _, w4⟩ := DataW.trod_int Tryd.underlying22 g3
  obtain ⟨a5, e5, _⟩ := DataW.trod_bool Tryd.underlying4 g4
  obtain ⟨a6, e6, _, w6⟩ := DataW.trod_string Tryd.underlying9 g5
  have f4 := at1 e4
  have f5 := at1 e5
  have f6 := at1 e6
  have b4 := u64_of w4
  have r4 : ((a4.toNat : Nat) : Int) = a4 := by omega
  refine ⟨⟨a2, a3, a4.toNat, a5, a6.data.toList⟩, ⟨t0, t1, w3, by show a4.toNat < 18446744073709551616; omega, by simpa [maxLen] using w6⟩, ?_⟩
  match cs, hl with
  | [x0, x1, x2, x3, x4], _ =>
    simp only [List.getElem?_cons_zero, List.getElem?_cons_succ, Option.some.injEq] at f4 f5 f6
    have ek : [x0, x1] = [.int .i64 a2, .string (B a3)] := ek
    injection ek with e0 ek
    injection ek with e1 _
    subst f4 f5 f6 e0 e1
    simp only [Rs.cells, B_data, r4]
theorem thing_cells {H : Type} {enc : TypeId × Value → H} {W : World} {sp : Nat → Bool} {held : Bool} {n base : Nat} {cs : List Value} {x : DataW H × List MemPlace}
    (h : DataW.trod enc Tryd.prog W base sp held n 96 cs = some x) : ∃ y : Th, y.Ok ∧ cs = y.cells := by
  obtain ⟨ys, m, rfl, _, hl, hys, hf⟩ := DataW.trod_struct Tryd.underlying96 h
  have c96 : Tryd.prog.cellsOf 96 = 7 := by kernel_rfl
  have c89 : Tryd.prog.cellsOf 89 = 5 := by kernel_rfl
  have c5 : Tryd.prog.cellsOf 5 = 1 := by kernel_rfl
  have c4 : Tryd.prog.cellsOf 4 = 1 := by kernel_rfl
  rw [c96] at hl
  have g0 : DataW.trod enc Tryd.prog W base sp held m 89 ((cs.drop 0).take (Tryd.prog.cellsOf 89)) = ys[0]? := hf 0 _ rfl
  have g1 : DataW.trod enc Tryd.prog W base sp held m 4 ((cs.drop 5).take (Tryd.prog.cellsOf 4)) = ys[1]? := hf 1 _ rfl
  have g2 : DataW.trod enc Tryd.prog W base sp held m 5 ((cs.drop 6).take (Tryd.prog.cellsOf 5)) = ys[2]? := hf 2 _ rfl
  have hy3 : ys.length = 3 := hys
  rw [c89, List.getElem?_eq_getElem (by omega)] at g0
  rw [c4, List.getElem?_eq_getElem (by omega)] at g1
  rw [c5, List.getElem?_eq_getElem (by omega)] at g2
  obtain ⟨r, hok, hr⟩ := res_cells g0
  obtain ⟨a5, e5, _⟩ := DataW.trod_bool Tryd.underlying4 g1
  obtain ⟨a6, e6, _, w6⟩ := DataW.trod_int Tryd.underlying5 g2
  have f5 := at1 e5
  have f6 := at1 e6
  have b6 := u8_of w6
  have r6 : ((a6.toNat : Nat) : Int) = a6 := by omega
  refine ⟨⟨r, a5, a6.toNat⟩, ⟨hok, by show a6.toNat < 256; omega⟩, ?_⟩
  match cs, hl with
  | [x0, x1, x2, x3, x4, x5, x6], _ =>
    simp only [List.getElem?_cons_zero, List.getElem?_cons_succ, Option.some.injEq] at f5 f6
    subst f5 f6
    simp only [Th.cells, r6, ← hr]
    rfl
theorem thing_in {H : Type} {enc : TypeId × Value → H} {W : World} {cs : Array Value} {d : DataW H} {p : List MemPlace} (h : DataW.Trod enc Tryd.prog W 0 (fun _ => true) true 96 (.agg cs) d p) : ∃ y : Th, y.Ok ∧ cs = y.cells.toArray := by
  obtain ⟨m, hm⟩ := h
  obtain ⟨y, hy, e⟩ := thing_cells hm
  have e : cs.toList = y.cells := e
  exact ⟨y, hy, by rw [← e]⟩
end Go.Proofs.YtbdacbcpniegiaaDoor.Q
