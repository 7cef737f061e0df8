/- Own work: a part of the symbolic executor and of the walks of the functions that the claim reaches. -/
import Derived.Test.YtbdacbcpniegiaaDoorBase6
namespace Go.Proofs.YtbdacbcpniegiaaDoor.Q
open Go Go.RowKit Go.Proofs Go.Sx
set_option maxRecDepth 100000
set_option linter.unusedSimpArgs false
set_option linter.unusedVariables false
theorem fields_any (x : Th) (hx : x.Ok) (how : Nat) (hhow : how < 256) (sq : Nat) (hsq : sq < 256) (w : World) {e : EA} (he : e.Ok) (hG : ∀ p ∈ GW e, w.cell? p.1 = some p.2 ∧ loneStr w p) :
    Calls Tryd.prog 14 #[.agg x.cells.toArray, .int .u8 how, .int .u8 sq] w fun x w' => x = .returned (.bool true) ∧ Below w.heap.size w w' := by
  obtain ⟨r, own, nm⟩ := x
  refine (ctr_calls (fields_ctr he r own nm how sq hsq) w hG (vals := [.agg #[.int .i64 r.t, .string (B r.s), .int .u64 r.q, .bool r.g, .string (B r.b), .bool own, .int .u8 nm], .int .u8 how, .int .u8 sq]) ⟨⟨_, rfl, rfl, rfl, rfl, rfl, rfl, rfl, rfl, trivial⟩, rfl, rfl, trivial⟩).mono ?_
  rintro x w' ⟨v, os', s, σ', rfl, ⟨rfl, rfl⟩, hd, hb⟩
  have hd : v = .bool true := hd
  subst hd
  exact ⟨rfl, hb⟩
end Go.Proofs.YtbdacbcpniegiaaDoor.Q
