/- Own work: a part of the symbolic executor and of the walks of the functions that the claim reaches. -/
import Derived.Test.YtbdacbcpniegiaaGreatDoorBase1
import Derived.StillTail
import Derived.LoopN
import Derived.Lib.Builder
import Derived.Lib.UnsafeStr
import Derived.Laws.Externs
import Derived.Lib.AppendZerosOnto
import Derived.Lib.Overlaps
import Derived.Test.YtbdacbcpniegiaaGreatDoorProg
import Derived.KernelRfl
import Derived.Laws.StructEq
import Derived.Test.YtbdacbcpniegiaaGreatDoorChecked
import Derived.WalkKit
import Derived.LaidEql
import Derived.Stop.Asserts
import Derived.RowKitTokens
set_option maxRecDepth 100000
set_option maxHeartbeats 64000000
set_option linter.unusedSimpArgs false
set_option linter.unusedVariables false
namespace Go.Sx
open Go Go.RowKit
def allOne : List SC → Prop
  | [] => True
  | x :: l => SC.One x ∧ allOne l
theorem one_agg : ∀ (l : List SC),S1.One (.agg l) = allOne l
  | [] => by simp [S1.One,S1.cells,allOne]
  | x :: l => by
    have := one_agg l
    simp only [S1.One,S1.cells,List.mem_cons,forall_eq_or_imp,allOne] at this ⊢
    rw [← this]
theorem e_partsOne_c : ∀ (p : Nat × S1) (l : List (Nat × S1)),partsOne (p :: l) = (p.2.One ∧ partsOne l) := by intros;rfl
theorem e_buildSlice : ∀ (X : Ctx) (d : Option Tmp) (ty : TypeId) (pos : String) (af : Array Edge) (g : Option (Nat × Bool)) (c : Cfg) (N : Cfg → Prop) (t : TypeId) (n : Nat) (parts : Array (Nat × Operand)),vcOp X ⟨d,.buildSlice t n parts,ty,pos,af,g⟩ c N = bslS X d N c n (elemSz X.P t) (partsS c parts.toList) := by intros;rfl
theorem e_bsl_s : ∀ (X : Ctx) (d : Option Tmp) (N : Cfg → Prop) (c : Cfg) (n e sz : Nat) (ps : List (Nat × S1)),bslS X d N c n (some (e,sz)) (some ps) = bsl1 X d N c n e sz ps (zeroCells X.P e) := by intros;rfl
theorem e_bsl_1 : ∀ (X : Ctx) (d : Option Tmp) (N : Cfg → Prop) (c : Cfg) (n e sz : Nat) (ps : List (Nat × S1)) (zs : List Value),bsl1 X d N c n e sz ps (some zs) = (zs.length = sz ∧ n * sz ≤ 16777216 ∧ partsOne ps ∧ bsl2 X d N c n e (fillS (placesS n sz) (zerosS zs n sz) ps)) := by intros;rfl
theorem e_bsl_2 : ∀ (X : Ctx) (d : Option Tmp) (N : Cfg → Prop) (c : Cfg) (n e : Nat) (out : List SC),bsl2 X d N c n e (some out) = nxt X d N { c with loc := c.loc ++ [.cells out e] } (.one (.c (.sl c.loc.length 0 n n))) := by intros;rfl
theorem e_makeFunc : ∀ (X : Ctx) (d : Option Tmp) (ty : TypeId) (pos : String) (af : Array Edge) (g : Option (Nat × Bool)) (c : Cfg) (N : Cfg → Prop) (f : FuncId) (first caps : Array Operand),vcOp X ⟨d,.makeFunc (.func f) first caps,ty,pos,af,g⟩ c N = mkfS X d N c f (sps? c first.toList) (sps? c caps.toList) := by intros;rfl
theorem e_mkf_s : ∀ (X : Ctx) (d : Option Tmp) (N : Cfg → Prop) (c : Cfg) (f : FuncId) (p q : List SP),mkfS X d N c f (some p) (some q) = nxt X d N c (.one (.c (.clo f p q))) := by intros;rfl
theorem e_makeIface : ∀ (X : Ctx) (d : Option Tmp) (ty : TypeId) (pos : String) (af : Array Edge) (g : Option (Nat × Bool)) (c : Cfg) (N : Cfg → Prop) (t : TypeId) (x : Operand),vcOp X ⟨d,.makeInterface t x,ty,pos,af,g⟩ c N = mkiS X d N c t (c.ev x).val? (X.P.underlying t) := by intros;rfl
theorem e_mki_s : ∀ (X : Ctx) (d : Option Tmp) (N : Cfg → Prop) (c : Cfg) (t : TypeId) (v : Value) (u : TypeDesc),mkiS X d N c t (some v) (some u) = (notIface u = true ∧ nxt X d N c (vv (.iface t v))) := by intros;rfl
theorem e_ni_struct : ∀ (f : Array Field),notIface (.struct f) = true := by intros;rfl
theorem e_ni_pointer : ∀ (e : TypeId),notIface (.pointer e) = true := by intros;rfl
theorem e_ni_int : ∀ (k : IntKind),notIface (.int k) = true := by intros;rfl
theorem e_nxt_s : ∀ (X : Ctx) (t : Tmp) (N : Cfg → Prop) (c : Cfg) (s : SV),nxt X (some t) N c s = (t < X.nt ∧ N { c with env := (t,s) :: c.env }) := by intros;simp [nxt,dOk,Cfg.put]
theorem e_nxt_n : ∀ (X : Ctx) (N : Cfg → Prop) (c : Cfg) (s : SV),nxt X none N c s = N c := by intros;simp [nxt,dOk,Cfg.put]
theorem e_vcg_u : ∀ (X : Ctx) (d : Option Tmp) (o : Oper) (pol : Bool) (t : Tmp) (c : Cfg) (N : Cfg → Prop),vcG1 X d o pol t (some (.one (.c (.v undef)))) c N = nxt X d N c (vv undef) := by intros;simp [vcG1,undef]
theorem e_lk_c : ∀ (t k : Nat) (s : SV) (l : List (Nat × SV)),List.lookup t ((k,s) :: l) = lkB (t == k) s (List.lookup t l) := by intro t k s l;rw [List.lookup_cons];cases t == k <;> rfl
theorem e_svals_n : svals? [] = some [] := by intros;rfl
theorem e_svals_c : ∀ (s : SV) (l : List SV),svals? (s :: l) = svB s.val? (svals? l) := by intros;rfl
theorem e_svB : ∀ (v : Value) (r : List Value),svB (some v) (some r) = some (v :: r) := by intros;rfl
theorem e_cells_c : ∀ (x : SC),S1.cells (.c x) = [x] := by intros;rfl
theorem e_cells_a : ∀ (l : List SC),S1.cells (.agg l) = l := by intros;rfl
theorem e_one_c : ∀ (x : SC),S1.One (.c x) = SC.One x := by intros;simp [S1.One,S1.cells]
theorem e_one_a : ∀ (l : List SC),S1.One (.agg l) = allOne l := one_agg
theorem e_ao_n : allOne [] = True := by intros;rfl
theorem e_ao_c : ∀ (x : SC) (l : List SC),allOne (x :: l) = (SC.One x ∧ allOne l) := by intros;rfl
theorem e_o_v : ∀ (x : Value),SC.One (.v x) = (x.oneCell' = true) := by intros;rfl
theorem e_o_l : ∀ (i o : Nat),SC.One (.loc i o) = True := by intros;rfl
theorem e_o_sl : ∀ (i o n k : Nat),SC.One (.sl i o n k) = True := by intros;rfl
theorem e_fill_c : ∀ (pl : List (Nat × Nat)) (acc : List SC) (i : Nat) (s : S1) (r : List (Nat × S1)),fillS pl acc ((i,s) :: r) = (pl[i]?).bind fun p => if s.cells.length = p.2 ∧ p.1 + p.2 ≤ acc.length then fillS pl (splice acc p.1 s.cells) r else none := by intro pl acc i s r;cases h : pl[i]? <;> simp [fillS,h]
theorem e_b_ptn_neq : ∀ (P : Program) (t : TypeId) (a : Addr) (N : Value → Prop) (els : Prop),binK P t .neq (.pointer (some a)) (.pointer none) N els = ((∃ e,P.underlying t = some (.pointer e)) ∧ N (.bool true)) := by intros;rfl
theorem e_b_sln_eql : ∀ (P : Program) (t : TypeId) (a : Addr) (n m n' m' : Nat) (N : Value → Prop) (els : Prop),binK P t .eql (.slice (some a) n m) (.slice none n' m') N els = ((∃ e,P.underlying t = some (.slice e)) ∧ N (.bool false)) := by intros;rfl
theorem e_b_sln_neq : ∀ (P : Program) (t : TypeId) (a : Addr) (n m n' m' : Nat) (N : Value → Prop) (els : Prop),binK P t .neq (.slice (some a) n m) (.slice none n' m') N els = ((∃ e,P.underlying t = some (.slice e)) ∧ N (.bool true)) := by intros;rfl
theorem e_b_nnp_eql : ∀ (P : Program) (t : TypeId)  (N : Value → Prop) (els : Prop),binK P t .eql (.pointer none) (.pointer none) N els = ((∃ e,P.underlying t = some (.pointer e)) ∧ N (.bool true)) := by intros;rfl
theorem e_b_nnp_neq : ∀ (P : Program) (t : TypeId)  (N : Value → Prop) (els : Prop),binK P t .neq (.pointer none) (.pointer none) N els = ((∃ e,P.underlying t = some (.pointer e)) ∧ N (.bool false)) := by intros;rfl
theorem e_b_snn_eql : ∀ (P : Program) (t : TypeId) (n m n' m' : Nat) (N : Value → Prop) (els : Prop),binK P t .eql (.slice none n m) (.slice none n' m') N els = ((∃ e,P.underlying t = some (.slice e)) ∧ N (.bool true)) := by intros;rfl
theorem e_b_snn_neq : ∀ (P : Program) (t : TypeId) (n m n' m' : Nat) (N : Value → Prop) (els : Prop),binK P t .neq (.slice none n m) (.slice none n' m') N els = ((∃ e,P.underlying t = some (.slice e)) ∧ N (.bool false)) := by intros;rfl
theorem e_is_add : isShift .add = false := by intros;rfl
theorem e_is_sub : isShift .sub = false := by intros;rfl
theorem e_is_mul : isShift .mul = false := by intros;rfl
theorem e_is_quo : isShift .quo = false := by intros;rfl
theorem e_is_rem : isShift .rem = false := by intros;rfl
theorem e_st_geq : ∀ (a b : ByteArray) (N : Value → Prop),strBinK .geq a b N = N (.bool (!Op.bytesLess a.toList b.toList)) := by intros;rfl
theorem e_st_lss : ∀ (a b : ByteArray) (N : Value → Prop),strBinK .lss a b N = N (.bool (Op.bytesLess a.toList b.toList)) := by intros;rfl
theorem e_arg_n : ∀ (k : Nat),argsEnv k [] = [] := by intros;rfl
theorem e_arg_c : ∀ (k : Nat) (v : Value) (l : List Value),argsEnv k (v :: l) = (k,argsEnv.svOf v) :: argsEnv (k + 1) l := by intros;rfl
theorem e_arg_a : ∀ (cs : List Value),argsEnv.svOf (.agg cs.toArray) = .one (.agg (cs.map .v)) := by intros;rfl
theorem e_arg_int : ∀ (k : IntKind) (n : Int),argsEnv.svOf (.int k n) = vv (.int k n) := by intros;rfl
theorem e_arg_bool : ∀ (b : Bool),argsEnv.svOf (.bool b) = vv (.bool b) := by intros;rfl
theorem e_arg_string : ∀ (s : ByteArray),argsEnv.svOf (.string s) = vv (.string s) := by intros;rfl
theorem e_arg_pointer : ∀ (a : Option Addr),argsEnv.svOf (.pointer a) = vv (.pointer a) := by intros;rfl
theorem e_arg_slice : ∀ (a : Option Addr) (n k : Nat),argsEnv.svOf (.slice a n k) = vv (.slice a n k) := by intros;rfl
theorem e_arg_map : ∀ (r : Option Nat),argsEnv.svOf (.map r) = vv (.map r) := by intros;rfl
theorem e_arg_func : ∀ (f : Fn) (a b : Array Value),argsEnv.svOf (.func f a b) = vv (.func f a b) := by intros;rfl
theorem e_lenB_r : ∀ (c : Cfg) (i e : Nat) (N : Value → Prop),lenB c (.one (.c (.row i))) (some (.slice e)) N = lenRowK (c.loc[i]?) N := by intros;simp [lenB]
theorem e_indexAddr : ∀ (X : Ctx) (d : Option Tmp) (ty : TypeId) (pos : String) (af : Array Edge) (g : Option (Nat × Bool)) (c : Cfg) (N : Cfg → Prop) (t : TypeId) (x i : Operand),vcOp X ⟨d,.indexAddr t x i,ty,pos,af,g⟩ c N = ixK c (c.ev x) (c.ev i) (elemSz X.P t) (arrInf X.P t) (fun s => nxt X d N c s) := by intros;rfl
theorem e_append : ∀ (X : Ctx) (d : Option Tmp) (ty : TypeId) (pos : String) (af : Array Edge) (g : Option (Nat × Bool)) (c : Cfg) (N : Cfg → Prop) (x y : Operand) (t u : TypeId),vcOp X ⟨d,.call { callee := .builtin .append,args := #[x,y],argTypes := #[t,u] },ty,pos,af,g⟩ c N = appK X d N c (c.ev x) x y (t == u) (isStrT X.P u) (elemInf X.P t) (VO X ⟨d,.call { callee := .builtin .append,args := #[x,y],argTypes := #[t,u] },ty,pos,af,g⟩ c N) := by intros;rfl
theorem e_min : ∀ (X : Ctx) (d : Option Tmp) (ty : TypeId) (pos : String) (af : Array Edge) (g : Option (Nat × Bool)) (c : Cfg) (N : Cfg → Prop) (x y : Operand) (ts : Array TypeId),vcOp X ⟨d,.call { callee := .builtin .min,args := #[x,y],argTypes := ts },ty,pos,af,g⟩ c N = minK (c.ev x) (c.ev y) (fun r => nxt X d N c (vv r)) := by intros;rfl
theorem e_idx_s : ∀ (b : ByteArray) (k : IntKind) (n : Int) (N : Value → Prop),idxK (.one (.c (.v (.string b)))) (.one (.c (.v (.int k n)))) true N = (0 ≤ n ∧ n < b.size ∧ N (.int .u8 (bget b n.toNat).toNat)) := by intros;rfl
theorem e_slc_s : ∀ (c : Cfg) (b : ByteArray) (es : Option (TypeId × Nat)) (l h : Option Int) (N : SV → Prop),slcK c (.one (.c (.v (.string b)))) true es (some l) (some h) N = (0 ≤ l.getD 0 ∧ l.getD 0 ≤ h.getD b.size ∧ h.getD b.size ≤ b.size ∧ N (vv (.string (b.extract (l.getD 0).toNat (h.getD b.size).toNat)))) := by intros;rfl
theorem e_slc_sl : ∀ (c : Cfg) (j off n k e sz : Nat) (b : Bool) (l h : Option Int) (N : SV → Prop),slcK c (.one (.c (.sl j off n k))) b (some (e,sz)) (some l) (some h) N = (0 ≤ l.getD 0 ∧ l.getD 0 ≤ h.getD n ∧ h.getD n ≤ k ∧ N (.one (.c (.sl j (slOff k off sz l) ((h.getD n).toNat - (l.getD 0).toNat) (k - (l.getD 0).toNat))))) := by intros;rfl
theorem e_slOff_n : ∀ (k off sz : Nat),slOff k off sz none = off := by intros;rfl
theorem e_slOff_s : ∀ (k off sz : Nat) (l : Int),slOff k off sz (some l) = if k = l.toNat then off else off + l.toNat * sz := by intros;rfl
theorem e_slc_r : ∀ (c : Cfg) (i e sz : Nat) (b : Bool) (l h : Option Int) (N : SV → Prop),slcK c (.one (.c (.row i))) b (some (e,sz)) (some l) (some h) N = slcRow (c.loc[i]?) l h N := by intros;rfl
theorem e_slcRow : ∀ (e sz n : Nat) (xs : List Value) (l h : Option Int) (N : SV → Prop),slcRow (some (.row e sz n xs)) l h N = (0 ≤ l.getD 0 ∧ l.getD 0 ≤ h.getD n ∧ h.getD n ≤ n ∧ N (.one (.c .dead))) := by intros;rfl
theorem e_optI_n : ∀ (c : Cfg),optI c none = some none := by intros;rfl
theorem e_optI_s : ∀ (c : Cfg) (x : Operand),optI c (some x) = optJ (c.ev x) := by intros;rfl
theorem e_s1_pointer : ∀ (a : Option Addr),s1Of (.pointer a) = .c (.v (.pointer a)) := by intros;rfl
theorem e_s1_slice : ∀ (a : Option Addr) (n k : Nat),s1Of (.slice a n k) = .c (.v (.slice a n k)) := by intros;rfl
theorem e_s1_map : ∀ (r : Option Nat),s1Of (.map r) = .c (.v (.map r)) := by intros;rfl
theorem e_o_r : ∀ (i : Nat),SC.One (.row i) = True := by intros;rfl
theorem e_o_ri : ∀ (i k : Nat),SC.One (.ri i k) = True := by intros;rfl
theorem e_val_ri : ∀ (i k : Nat),SV.val? (.one (.c (.ri i k))) = none := by intros;rfl
theorem e_as_n : ∀ (k : Nat),argsS k [] = [] := by intros;rfl
theorem e_as_c : ∀ (k : Nat) (s : SV) (l : List SV),argsS k (s :: l) = (k,s) :: argsS (k + 1) l := by intros;rfl
theorem e_fi_n : ∀ (X : Ctx) (rs : List ResultVar) (M : Cfg → SV → Prop) (c : Cfg),FinI X rs M .normal c = FinM X rs M c := by intros;rfl
theorem e_fi_r : ∀ (X : Ctx) (rs : List ResultVar) (M : Cfg → SV → Prop) (c : Cfg),FinI X rs M .ret c = FinM X rs M c := by intros;rfl
theorem e_rl_n : ∀ (X : Ctx) (c : Cfg),resL X c [] = some [] := by intros;rfl
theorem e_rl_c : ∀ (X : Ctx) (c : Cfg) (r : ResultVar) (l : List ResultVar),resL X c (r :: l) = resB (resOne X c r) (resL X c l) := by intros;rfl
theorem e_B_size : ∀ (l : List UInt8),(B l).size = l.length := B_size
theorem e_B_append : ∀ (l m : List UInt8),B l ++ B m = B (l ++ m) := B_append
theorem e_B_toList : ∀ (l : List UInt8),(B l).toList = l := B_toList
theorem e_B_bget : ∀ (l : List UInt8) (n : Nat),bget (B l) n = l.getD n 0 := B_bget
theorem e_B_extract : ∀ (l : List UInt8) (a b : Nat),(B l).extract a b = B ((l.drop a).take (b - a)) := B_extract
theorem e_rnL_r : ∀ (f : List Nat) (e sz n : Nat) (xs : List Value),LO.ren f (.row e sz n xs) = .row e sz n xs := by intros;rfl
theorem e_rnL_m : ∀ (f : List Nat) (es : List (Value × S1)),LO.ren f (.map es) = .map (es.map fun p => (p.1,p.2.ren f)) := by intros;rfl
theorem e_rnL_e : ∀ (f : List Nat) (H : Value → List Nat → World → Prop),LO.ren f (.ext H) = .ext H := by intros;rfl
theorem e_rnL_g : ∀ (f : List Nat),LO.ren f .gone = .gone := by intros;rfl
theorem e_okP_v : ∀ (n : Nat) (x : Value),SP.okB n (.v x) = true := by intros;rfl
theorem e_okP_l : ∀ (n i o : Nat),SP.okB n (.loc i o) = decide (i < n) := by intros;rfl
theorem e_okP_r : ∀ (n i : Nat),SP.okB n (.row i) = decide (i < n) := by intros;rfl
theorem e_okC_v : ∀ (n : Nat) (x : Value),SC.okB n (.v x) = true := by intros;rfl
theorem e_okC_dead : ∀ (n : Nat) ,SC.okB n (.dead) = true := by intros;rfl
theorem e_okC_loc : ∀ (n : Nat) (i o : Nat),SC.okB n (.loc i o) = decide (i < n) := by intros;rfl
theorem e_okC_sl : ∀ (n : Nat) (i o m k : Nat),SC.okB n (.sl i o m k) = decide (i < n) := by intros;rfl
theorem e_okC_row : ∀ (n : Nat) (i : Nat),SC.okB n (.row i) = decide (i < n) := by intros;rfl
theorem e_sa_n : ∀ (l os : List LO),setAll l [] os = l := by intros;simp [setAll]
theorem e_sa_m : ∀ (l : List LO) (sel : List Nat),setAll l sel [] = l := by intro l sel;cases sel <;> simp [setAll]
theorem sx0 : (∀ (X : Ctx) (d : Option Tmp) (ty : TypeId) (pos : String) (af : Array Edge) (g : Option (Nat × Bool)) (c : Cfg) (N : Cfg → Prop) (x : Operand),vcOp X ⟨d,.move x,ty,pos,af,g⟩ c N = nxt X d N c (c.ev x)) ∧ (∀ (X : Ctx) (d : Option Tmp) (ty : TypeId) (pos : String) (af : Array Edge) (g : Option (Nat × Bool)) (c : Cfg) (N : Cfg → Prop) (x : Operand),vcOp X ⟨d,.assign x,ty,pos,af,g⟩ c N = nxt X d N c (c.ev x)) ∧ (∀ (X : Ctx) (d : Option Tmp) (ty : TypeId) (pos : String) (af : Array Edge) (g : Option (Nat × Bool)) (c : Cfg) (N : Cfg → Prop) (k x y : Operand),vcOp X ⟨d,.pick k x y,ty,pos,af,g⟩ c N = pickS X d N c (c.ev k) x y) ∧ (∀ (X : Ctx) (d : Option Tmp) (N : Cfg → Prop) (c : Cfg) (b : Bool) (x y : Operand),pickS X d N c (.one (.c (.v (.bool b)))) x y = bif2 b (nxt X d N c (c.ev x)) (nxt X d N c (c.ev y))) ∧ (∀ (X : Ctx) (d : Option Tmp) (ty : TypeId) (pos : String) (af : Array Edge) (g : Option (Nat × Bool)) (c : Cfg) (N : Cfg → Prop) (t : TypeId),vcOp X ⟨d,.alloc t,ty,pos,af,g⟩ c N = allocS X d N c t (zeroCells X.P t)) ∧ (∀ (X : Ctx) (d : Option Tmp) (N : Cfg → Prop) (c : Cfg) (t : TypeId) (zs : List Value),allocS X d N c t (some zs) = nxt X d N { c with loc := c.loc ++ [.cells (zs.map .v) t] } (.one (.c (.loc c.loc.length 0)))) ∧ (∀ (X : Ctx) (d : Option Tmp) (ty : TypeId) (pos : String) (af : Array Edge) (g : Option (Nat × Bool)) (c : Cfg) (N : Cfg → Prop) (t : TypeId) (x : Operand),vcOp X ⟨d,.box t x,ty,pos,af,g⟩ c N = boxS X d N c t (c.ev x)) ∧ (∀ (X : Ctx) (d : Option Tmp) (N : Cfg → Prop) (c : Cfg) (t : TypeId) (s : S1),boxS X d N c t (.one s) = (s.One ∧ nxt X d N { c with loc := c.loc ++ [.cells s.cells t] } (.one (.c (.loc c.loc.length 0))))) ∧ (∀ (X : Ctx) (d : Option Tmp) (ty : TypeId) (pos : String) (af : Array Edge) (g : Option (Nat × Bool)) (c : Cfg) (N : Cfg → Prop) (t : TypeId) (x : Operand),vcOp X ⟨d,.load t x,ty,pos,af,g⟩ c N = vcLoad X t (c.ev x) c (nxt X d N c) (vcLoad2 X c t (c.ev x) (nxt X d N c) (VO X ⟨d,.load t x,ty,pos,af,g⟩ c N))) ∧ (∀ (X : Ctx) (t : TypeId) (i off : Nat) (c : Cfg) (N : SV → Prop) (els : Prop),vcLoad X t (.one (.c (.loc i off))) c N els = loadA (c.loc[i]?) (aggOf X.P t) (szOf X.P t) off N) ∧ (∀ (X : Ctx) (t : TypeId) (v : Value) (c : Cfg) (N : SV → Prop) (els : Prop),vcLoad X t (.one (.c (.v v))) c N els = els) ∧ (∀ (l : List SC) (t' : TypeId) (z : Option Nat) (off : Nat) (N : SV → Prop),loadA (some (.cells l t')) (some false) z off N = load1S (l[off]?) N) ∧ (∀ (l : List SC) (t' : TypeId) (n : Nat) (off : Nat) (N : SV → Prop),loadA (some (.cells l t')) (some true) (some n) off N = (off + n ≤ l.length ∧ N (.one (.agg ((l.drop off).take n))))) ∧ (∀ (s : SC) (N : SV → Prop),load1S (some s) N = N (.one (.c s))) ∧ (∀ (X : Ctx) (d : Option Tmp) (ty : TypeId) (pos : String) (af : Array Edge) (g : Option (Nat × Bool)) (c : Cfg) (N : Cfg → Prop) (t : TypeId) (x y : Operand),vcOp X ⟨d,.store t x y,ty,pos,af,g⟩ c N = (d = none ∧ vcStore X t (c.ev x) (c.ev y) c N (VO X ⟨none,.store t x y,ty,pos,af,g⟩ c N))) ∧ (∀ (X : Ctx) (t : TypeId) (i off : Nat) (z : S1) (c : Cfg) (N : Cfg → Prop) (els : Prop),vcStore X t (.one (.c (.loc i off))) (.one z) c N els = storeA (c.loc[i]?) (szOf X.P t) i off z c N) ∧ (∀ (l : List SC) (t' : TypeId) (n i off : Nat) (z : S1) (c : Cfg) (N : Cfg → Prop),storeA (some (.cells l t')) (some n) i off z c N = (z.One ∧ z.cells.length = n ∧ off + n ≤ l.length ∧ N { c with loc := c.loc.set i (.cells (splice l off z.cells) t') })) ∧ (∀ (X : Ctx) (d : Option Tmp) (ty : TypeId) (pos : String) (af : Array Edge) (g : Option (Nat × Bool)) (c : Cfg) (N : Cfg → Prop) (t : TypeId) (x : Operand) (f : Nat),vcOp X ⟨d,.fieldAddr t x f,ty,pos,af,g⟩ c N = fieldS X d N c (c.ev x) (fieldOff X.P t f)) ∧ (∀ (X : Ctx) (d : Option Tmp) (N : Cfg → Prop) (c : Cfg) (i off o : Nat),fieldS X d N c (.one (.c (.loc i off))) (some o) = nxt X d N c (.one (.c (.loc i (off + o))))) ∧ (∀ (X : Ctx) (d : Option Tmp) (N : Cfg → Prop) (c : Cfg) (i k o : Nat),fieldS X d N c (.one (.c (.ri i k))) (some o) = nxt X d N c (.one (.c (.ri i (k + o))))) ∧ (∀ (X : Ctx) (t : TypeId) (i k : Nat) (z : S1) (c : Cfg) (N : Cfg → Prop) (els : Prop),vcStore X t (.one (.c (.ri i k))) (.one z) c N els = storeR (c.loc[i]?) (szOf X.P t) i k z (vals? z.cells) c N) ∧ (∀ (e sz n : Nat) (xs vs : List Value) (m i k : Nat) (z : S1) (c : Cfg) (N : Cfg → Prop),storeR (some (.row e sz n xs)) (some m) i k z (some vs) c N = (z.One ∧ vs.length = m ∧ k + m ≤ xs.length ∧ N { c with loc := c.loc.set i (.row e sz n (xs.take k ++ vs ++ xs.drop (k + m))) })) ∧ (∀ (X : Ctx) (d : Option Tmp) (N : Cfg → Prop) (c : Cfg) (ad : Addr) (o : Nat),fieldS X d N c (.one (.c (.v (.pointer (some ad))))) (some o) = nxt X d N c (vv (.pointer (some (ad.add o))))) ∧ (∀ (X : Ctx) (d : Option Tmp) (ty : TypeId) (pos : String) (af : Array Edge) (g : Option (Nat × Bool)) (c : Cfg) (N : Cfg → Prop) (op : BinOp) (t t2 : TypeId) (x y : Operand),vcOp X ⟨d,.binOp op t x y t2,ty,pos,af,g⟩ c N = binS (c.ev x).val? (c.ev y).val? (fun u v => binK X.P t op u v (fun r => nxt X d N c (vv r)) (VO X ⟨d,.binOp op t x y t2,ty,pos,af,g⟩ c N)) (VO X ⟨d,.binOp op t x y t2,ty,pos,af,g⟩ c N)) ∧ (∀ (u v : Value) (N : Value → Value → Prop) (els : Prop),binS (some u) (some v) N els = N u v) ∧ (∀ (v : Option Value) (N : Value → Value → Prop) (els : Prop),binS none v N els = els) ∧ (∀ (u : Value) (N : Value → Value → Prop) (els : Prop),binS (some u) none N els = els) ∧ (∀ (X : Ctx) (d : Option Tmp) (ty : TypeId) (pos : String) (af : Array Edge) (g : Option (Nat × Bool)) (c : Cfg) (N : Cfg → Prop) (op : UnOp) (t : TypeId) (x : Operand),vcOp X ⟨d,.unOp op t x,ty,pos,af,g⟩ c N = unS (c.ev x).val? (fun u => unK op u (fun r => nxt X d N c (vv r)))) ∧ (∀ (u : Value) (N : Value → Prop),unS (some u) N = N u) ∧ (∀ (b : Bool) (N : Value → Prop),unK .not (.bool b) N = N (.bool (!b))) ∧ (∀ (k : IntKind) (n : Int) (N : Value → Prop),unK .neg (.int k n) N = N (.int k (k.wrap (0 - n)))) ∧ (∀ (X : Ctx) (d : Option Tmp) (ty : TypeId) (pos : String) (af : Array Edge) (g : Option (Nat × Bool)) (c : Cfg) (N : Cfg → Prop) (s t : TypeId) (x : Operand),vcOp X ⟨d,.convert s t x,ty,pos,af,g⟩ c N = convS (c.ev x) (X.P.underlying s) (X.P.underlying t) (fun r => nxt X d N c (vv r)) (vcConv2 c (c.ev x) (isBytesT X.P s) (isStrT X.P t) (fun r => nxt X d N c (vv r)) (VO X ⟨d,.convert s t x,ty,pos,af,g⟩ c N))) ∧ (∀ (k k1 k' : IntKind) (n : Int) (N : Value → Prop) (els : Prop),convS (.one (.c (.v (.int k n)))) (some (.int k1)) (some (.int k')) N els = (k = k1 ∧ N (.int k' (k'.wrap n)))) ∧ (∀ (s : ByteArray) (a b : Option TypeDesc) (N : Value → Prop) (els : Prop),convS (.one (.c (.v (.string s)))) a b N els = els) ∧ (∀ (i o : Nat) (a b : Option TypeDesc) (N : Value → Prop) (els : Prop),convS (.one (.c (.loc i o))) a b N els = els) ∧ (∀ (c : Cfg) (i o : Nat) (b b' : Bool) (N : Value → Prop) (els : Prop),vcConv2 c (.one (.c (.loc i o))) b b' N els = els) ∧ (∀ (i o n k : Nat) (a b : Option TypeDesc) (N : Value → Prop) (els : Prop),convS (.one (.c (.sl i o n k))) a b N els = els) ∧ (∀ (c : Cfg) (i o n k : Nat) (b b' : Bool) (N : Value → Prop) (els : Prop),vcConv2 c (.one (.c (.sl i o n k))) b b' N els = els) ∧ (∀ (X : Ctx) (d : Option Tmp) (ty : TypeId) (pos : String) (af : Array Edge) (g : Option (Nat × Bool)) (c : Cfg) (N : Cfg → Prop) (x : Operand) (i : Nat),vcOp X ⟨d,.extract x i,ty,pos,af,g⟩ c N = extS X d N c (c.ev x) i) ∧ (∀ (X : Ctx) (d : Option Tmp) (N : Cfg → Prop) (c : Cfg) (l : List S1) (i : Nat),extS X d N c (.tup l) i = ext1 X d N c (l[i]?)) ∧ (∀ (X : Ctx) (d : Option Tmp) (N : Cfg → Prop) (c : Cfg) (s : S1),ext1 X d N c (some s) = nxt X d N c (.one s)) ∧ (∀ (X : Ctx) (d : Option Tmp) (ty : TypeId) (pos : String) (af : Array Edge) (g : Option (Nat × Bool)) (c : Cfg) (N : Cfg → Prop) (x : Operand),vcOp X ⟨d,.nilCheck x,ty,pos,af,g⟩ c N = nilS (c.ev x) (fun s => nxt X d N c s) (VO X ⟨d,.nilCheck x,ty,pos,af,g⟩ c N)) ∧ (∀ (i k : Nat) (N : SV → Prop) (els : Prop),nilS (.one (.c (.ri i k))) N els = N (.one (.c (.ri i k)))) ∧ (∀ (i off : Nat) (N : SV → Prop) (els : Prop),nilS (.one (.c (.loc i off))) N els = N (.one (.c (.loc i off)))) ∧ (∀ (X : Ctx) (d : Option Tmp) (ty : TypeId) (pos : String) (af : Array Edge) (g : Option (Nat × Bool)) (c : Cfg) (N : Cfg → Prop) (t : TypeId) (parts : Array (Nat × Operand)),vcOp X ⟨d,.build t parts,ty,pos,af,g⟩ c N = buildS X d N c (fieldsOf X.P t) (zeroCells X.P t) (partsS c parts.toList)) ∧ (∀ (X : Ctx) (d : Option Tmp) (N : Cfg → Prop) (c : Cfg) (pl : List (Nat × Nat)) (zs : List Value) (ps : List (Nat × S1)),buildS X d N c (some pl) (some zs) (some ps) = (partsOne ps ∧ build1 X d N c (fillS pl (zs.map .v) ps))) ∧ (∀ (X : Ctx) (d : Option Tmp) (N : Cfg → Prop) (c : Cfg) (out : List SC),build1 X d N c (some out) = nxt X d N c (.one (.agg out))) ∧ (partsOne [] = True) ∧ (∀ (p : Nat × S1) (l : List (Nat × S1)),partsOne (p :: l) = (p.2.One ∧ partsOne l)) ∧ (∀ (X : Ctx) (d : Option Tmp) (ty : TypeId) (pos : String) (af : Array Edge) (g : Option (Nat × Bool)) (c : Cfg) (N : Cfg → Prop) (t : TypeId) (n : Nat) (parts : Array (Nat × Operand)),vcOp X ⟨d,.buildSlice t n parts,ty,pos,af,g⟩ c N = bslS X d N c n (elemSz X.P t) (partsS c parts.toList)) ∧ (∀ (X : Ctx) (d : Option Tmp) (N : Cfg → Prop) (c : Cfg) (n e sz : Nat) (ps : List (Nat × S1)),bslS X d N c n (some (e,sz)) (some ps) = bsl1 X d N c n e sz ps (zeroCells X.P e)) ∧ (∀ (X : Ctx) (d : Option Tmp) (N : Cfg → Prop) (c : Cfg) (n e sz : Nat) (ps : List (Nat × S1)) (zs : List Value),bsl1 X d N c n e sz ps (some zs) = (zs.length = sz ∧ n * sz ≤ 16777216 ∧ partsOne ps ∧ bsl2 X d N c n e (fillS (placesS n sz) (zerosS zs n sz) ps))) ∧ (∀ (X : Ctx) (d : Option Tmp) (N : Cfg → Prop) (c : Cfg) (n e : Nat) (out : List SC),bsl2 X d N c n e (some out) = nxt X d N { c with loc := c.loc ++ [.cells out e] } (.one (.c (.sl c.loc.length 0 n n)))) ∧ (∀ (X : Ctx) (d : Option Tmp) (ty : TypeId) (pos : String) (af : Array Edge) (g : Option (Nat × Bool)) (c : Cfg) (N : Cfg → Prop) (f : FuncId) (first caps : Array Operand),vcOp X ⟨d,.makeFunc (.func f) first caps,ty,pos,af,g⟩ c N = mkfS X d N c f (sps? c first.toList) (sps? c caps.toList)) ∧ (∀ (X : Ctx) (d : Option Tmp) (N : Cfg → Prop) (c : Cfg) (f : FuncId) (p q : List SP),mkfS X d N c f (some p) (some q) = nxt X d N c (.one (.c (.clo f p q)))) ∧ (∀ (X : Ctx) (d : Option Tmp) (ty : TypeId) (pos : String) (af : Array Edge) (g : Option (Nat × Bool)) (c : Cfg) (N : Cfg → Prop) (t : TypeId) (x : Operand),vcOp X ⟨d,.makeInterface t x,ty,pos,af,g⟩ c N = mkiS X d N c t (c.ev x).val? (X.P.underlying t)) ∧ (∀ (X : Ctx) (d : Option Tmp) (N : Cfg → Prop) (c : Cfg) (t : TypeId) (v : Value) (u : TypeDesc),mkiS X d N c t (some v) (some u) = (notIface u = true ∧ nxt X d N c (vv (.iface t v)))) ∧ (∀ (f : Array Field),notIface (.struct f) = true) ∧ (∀ (e : TypeId),notIface (.pointer e) = true) ∧ (∀ (k : IntKind),notIface (.int k) = true) := ⟨by intros;rfl,by intros;rfl,by intros;rfl,by intros;rfl,by intros;rfl,by intros;rfl,by intros;rfl,by intros;rfl,by intros;rfl,by intros;rfl,by intros;rfl,by intros;rfl,by intros;rfl,by intros;rfl,by intros;rfl,by intros;rfl,by intros;rfl,by intros;rfl,by intros;rfl,by intros;rfl,by intros;rfl,by intros;rfl,by intros;rfl,by intros;rfl,by intros;rfl,by intros;rfl,by intros;rfl,by intros;rfl,by intros;rfl,by intros;rfl,by intros;rfl,by intros;rfl,by intros;rfl,by intros;rfl,by intros;rfl,by intros;rfl,by intros;rfl,by intros;rfl,by intros;rfl,by intros;rfl,by intros;rfl,by intros;rfl,by intros;rfl,by intros;rfl,by intros;rfl,by intros;rfl,by intros;rfl,by intros;rfl,e_partsOne_c,e_buildSlice,e_bsl_s,e_bsl_1,e_bsl_2,e_makeFunc,e_mkf_s,e_makeIface,e_mki_s,e_ni_struct,e_ni_pointer,e_ni_int⟩
theorem sx1 : (∀ (p : Nat × S1) (l : List (Nat × S1)),partsOne (p :: l) = (p.2.One ∧ partsOne l)) ∧ (∀ (X : Ctx) (d : Option Tmp) (ty : TypeId) (pos : String) (af : Array Edge) (g : Option (Nat × Bool)) (c : Cfg) (N : Cfg → Prop) (t : TypeId) (n : Nat) (parts : Array (Nat × Operand)),vcOp X ⟨d,.buildSlice t n parts,ty,pos,af,g⟩ c N = bslS X d N c n (elemSz X.P t) (partsS c parts.toList)) ∧ (∀ (X : Ctx) (d : Option Tmp) (N : Cfg → Prop) (c : Cfg) (n e sz : Nat) (ps : List (Nat × S1)),bslS X d N c n (some (e,sz)) (some ps) = bsl1 X d N c n e sz ps (zeroCells X.P e)) ∧ (∀ (X : Ctx) (d : Option Tmp) (N : Cfg → Prop) (c : Cfg) (n e sz : Nat) (ps : List (Nat × S1)) (zs : List Value),bsl1 X d N c n e sz ps (some zs) = (zs.length = sz ∧ n * sz ≤ 16777216 ∧ partsOne ps ∧ bsl2 X d N c n e (fillS (placesS n sz) (zerosS zs n sz) ps))) ∧ (∀ (X : Ctx) (d : Option Tmp) (N : Cfg → Prop) (c : Cfg) (n e : Nat) (out : List SC),bsl2 X d N c n e (some out) = nxt X d N { c with loc := c.loc ++ [.cells out e] } (.one (.c (.sl c.loc.length 0 n n)))) ∧ (∀ (X : Ctx) (d : Option Tmp) (ty : TypeId) (pos : String) (af : Array Edge) (g : Option (Nat × Bool)) (c : Cfg) (N : Cfg → Prop) (f : FuncId) (first caps : Array Operand),vcOp X ⟨d,.makeFunc (.func f) first caps,ty,pos,af,g⟩ c N = mkfS X d N c f (sps? c first.toList) (sps? c caps.toList)) ∧ (∀ (X : Ctx) (d : Option Tmp) (N : Cfg → Prop) (c : Cfg) (f : FuncId) (p q : List SP),mkfS X d N c f (some p) (some q) = nxt X d N c (.one (.c (.clo f p q)))) ∧ (∀ (X : Ctx) (d : Option Tmp) (ty : TypeId) (pos : String) (af : Array Edge) (g : Option (Nat × Bool)) (c : Cfg) (N : Cfg → Prop) (t : TypeId) (x : Operand),vcOp X ⟨d,.makeInterface t x,ty,pos,af,g⟩ c N = mkiS X d N c t (c.ev x).val? (X.P.underlying t)) ∧ (∀ (X : Ctx) (d : Option Tmp) (N : Cfg → Prop) (c : Cfg) (t : TypeId) (v : Value) (u : TypeDesc),mkiS X d N c t (some v) (some u) = (notIface u = true ∧ nxt X d N c (vv (.iface t v)))) ∧ (∀ (f : Array Field),notIface (.struct f) = true) ∧ (∀ (e : TypeId),notIface (.pointer e) = true) ∧ (∀ (k : IntKind),notIface (.int k) = true) ∧ (notIface .string = true) ∧ (∀ (X : Ctx) (d : Option Tmp) (ty : TypeId) (pos : String) (af : Array Edge) (g : Option (Nat × Bool)) (c : Cfg) (N : Cfg → Prop) (fo : Operand) (xs : Array Operand) (ts : Array TypeId),vcOp X ⟨d,.call { callee := .value fo,args := xs,argTypes := ts },ty,pos,af,g⟩ c N = vcCall X (c.ev fo) (xs.toList.map c.ev) c (fun c' s => nxt X d N c' s) (VO X ⟨d,.call { callee := .value fo,args := xs,argTypes := ts },ty,pos,af,g⟩ c N)) ∧ (∀ (X : Ctx) (f : FuncId) (fst cap : List SP) (args : List SV) (c : Cfg) (N : Cfg → SV → Prop) (els : Prop),vcCall X (.one (.c (.clo f fst cap))) args c N els = callIf (calleeOk X.P f) (CallVC X c f (fst.map SP.sv ++ args ++ cap.map SP.sv) N) els) ∧ (∀ (A B : Prop),callIf true A B = A) ∧ (∀ (A B : Prop),callIf false A B = B) ∧ (∀ (X : Ctx) (v : Value) (args : List SV) (c : Cfg) (N : Cfg → SV → Prop) (els : Prop),vcCall X (.one (.c (.v v))) args c N els = els) ∧ (∀ (X : Ctx) (d : Option Tmp) (ty : TypeId) (pos : String) (af : Array Edge) (g : Option (Nat × Bool)) (c : Cfg) (N : Cfg → Prop) (x : Operand) (t : TypeId),vcOp X ⟨d,.call { callee := .builtin .len,args := #[x],argTypes := #[t] },ty,pos,af,g⟩ c N = lenB c (c.ev x) (X.P.underlying t) (fun r => nxt X d N c (vv r))) ∧ (∀ (b : ByteArray) (N : Value → Prop),lenA (.one (.c (.v (.string b)))) (some .string) N = N (.int .i64 b.size)) ∧ (∀ (a : Option Addr) (n q e : Nat) (N : Value → Prop),lenA (.one (.c (.v (.slice a n q)))) (some (.slice e)) N = N (.int .i64 n)) ∧ (∀ (i o n q e : Nat) (N : Value → Prop),lenA (.one (.c (.sl i o n q))) (some (.slice e)) N = N (.int .i64 n)) ∧ (∀ (X : Ctx) (t : Tmp) (N : Cfg → Prop) (c : Cfg) (s : SV),nxt X (some t) N c s = (t < X.nt ∧ N { c with env := (t,s) :: c.env })) ∧ (∀ (X : Ctx) (N : Cfg → Prop) (c : Cfg) (s : SV),nxt X none N c s = N c) ∧ (∀ (X : Ctx) (ops : Array Oper) (c : Cfg) (N : Cfg → Prop),vc X ops [] c N = N c) ∧ (∀ (X : Ctx) (ops : Array Oper) (d : Option Tmp) (op : Op) (ty : TypeId) (pos : String) (af : Array Edge) (rest : List Oper) (c : Cfg) (N : Cfg → Prop),vc X ops (⟨d,op,ty,pos,af,none⟩ :: rest) c N = vcOp X ⟨d,op,ty,pos,af,none⟩ c (fun c' => vc X ops rest c' N)) ∧ (∀ (X : Ctx) (ops : Array Oper) (d : Option Tmp) (op : Op) (ty : TypeId) (pos : String) (af : Array Edge) (j : Nat) (pol : Bool) (rest : List Oper) (c : Cfg) (N : Cfg → Prop),vc X ops (⟨d,op,ty,pos,af,some (j,pol)⟩ :: rest) c N = vcG X d ⟨d,op,ty,pos,af,some (j,pol)⟩ pol ((ops[j]?).bind (·.dst)) c (fun c' => vc X ops rest c' N)) ∧ (∀ (X : Ctx) (d : Option Tmp) (o : Oper) (pol : Bool) (t : Tmp) (c : Cfg) (N : Cfg → Prop),vcG X d o pol (some t) c N = vcG1 X d o pol t (c.env.lookup t) c N) ∧ (∀ (X : Ctx) (d : Option Tmp) (o : Oper) (pol b : Bool) (t : Tmp) (c : Cfg) (N : Cfg → Prop),vcG1 X d o pol t (some (.one (.c (.v (.bool b))))) c N = gif b pol (vcOp X o { c with env := (t,vv (.bool pol)) :: c.env } N) (nxt X d N { c with env := (t,vv (.bool (!pol))) :: c.env } (vv undef))) ∧ (∀ (X : Ctx) (d : Option Tmp) (o : Oper) (pol : Bool) (t : Tmp) (c : Cfg) (N : Cfg → Prop),vcG1 X d o pol t (some (.one (.c (.v undef)))) c N = nxt X d N c (vv undef)) ∧ (∀ (c : Cfg) (t : Tmp),c.ev (.tmp t) = (c.env.lookup t).getD (.one (.c .dead))) ∧ (∀ (c : Cfg) (v : Value),c.ev (.const v) = .one (.c (.v v))) ∧ (∀ (c : Cfg) (g : Nat),c.ev (.global g) = .one (.c (.v (.pointer (some ⟨g,0,none⟩))))) ∧ (∀ (c : Cfg) (f : FuncId),c.ev (.func f) = .one (.c (.clo f [] []))) ∧ (∀ (c : Cfg) (t : Tmp),c.get t = (c.env.lookup t).getD (.one (.c .dead))) ∧ (∀ (t : Nat),List.lookup t ([] : List (Nat × SV)) = none) ∧ (∀ (t k : Nat) (s : SV) (l : List (Nat × SV)),List.lookup t ((k,s) :: l) = lkB (t == k) s (List.lookup t l)) ∧ (∀ (s : SV) (r : Option SV),lkB true s r = some s) ∧ (∀ (s : SV) (r : Option SV),lkB false s r = r) ∧ (∀ (x : Value),SV.val? (.one (.c (.v x))) = some x) ∧ (∀ (l : List SC),SV.val? (.one (.agg l)) = (vals? l).map fun vs => .agg vs.toArray) ∧ (∀ (i o : Nat),SV.val? (.one (.c (.loc i o))) = none) ∧ (∀ (i o n k : Nat),SV.val? (.one (.c (.sl i o n k))) = none) ∧ (∀ (l : List S1),SV.val? (.tup l) = none) ∧ (∀ (f : FuncId) (p q : List SP),SV.val? (.one (.c (.clo f p q))) = none) ∧ (∀ (i : Nat),SV.val? (.one (.c (.row i))) = none) ∧ (vals? [] = some []) ∧ (∀ (x : Value) (l : List SC),vals? (.v x :: l) = (vals? l).map (x :: ·)) ∧ (svals? [] = some []) ∧ (∀ (s : SV) (l : List SV),svals? (s :: l) = svB s.val? (svals? l)) ∧ (∀ (v : Value) (r : List Value),svB (some v) (some r) = some (v :: r)) ∧ (∀ (x : SC),S1.cells (.c x) = [x]) ∧ (∀ (l : List SC),S1.cells (.agg l) = l) ∧ (∀ (x : SC),S1.One (.c x) = SC.One x) ∧ (∀ (l : List SC),S1.One (.agg l) = allOne l) ∧ (allOne [] = True) ∧ (∀ (x : SC) (l : List SC),allOne (x :: l) = (SC.One x ∧ allOne l)) ∧ (∀ (x : Value),SC.One (.v x) = (x.oneCell' = true)) ∧ (∀ (i o : Nat),SC.One (.loc i o) = True) ∧ (∀ (i o n k : Nat),SC.One (.sl i o n k) = True) := ⟨e_partsOne_c,e_buildSlice,e_bsl_s,e_bsl_1,e_bsl_2,e_makeFunc,e_mkf_s,e_makeIface,e_mki_s,e_ni_struct,e_ni_pointer,e_ni_int,by intros;rfl,by intros;rfl,by intros;rfl,by intros;rfl,by intros;rfl,by intros;rfl,by intros;rfl,by intros;rfl,by intros;rfl,by intros;rfl,e_nxt_s,e_nxt_n,by intros;rfl,by intros;rfl,by intros;rfl,by intros;rfl,by intros;rfl,e_vcg_u,by intros;rfl,by intros;rfl,by intros;rfl,by intros;rfl,by intros;rfl,by intros;rfl,e_lk_c,by intros;rfl,by intros;rfl,by intros;rfl,by intros;rfl,by intros;rfl,by intros;rfl,by intros;rfl,by intros;rfl,by intros;rfl,by intros;rfl,by intros;rfl,e_svals_n,e_svals_c,e_svB,e_cells_c,e_cells_a,e_one_c,e_one_a,e_ao_n,e_ao_c,e_o_v,e_o_l,e_o_sl⟩
theorem sx2 : (svals? [] = some []) ∧ (∀ (s : SV) (l : List SV),svals? (s :: l) = svB s.val? (svals? l)) ∧ (∀ (v : Value) (r : List Value),svB (some v) (some r) = some (v :: r)) ∧ (∀ (x : SC),S1.cells (.c x) = [x]) ∧ (∀ (l : List SC),S1.cells (.agg l) = l) ∧ (∀ (x : SC),S1.One (.c x) = SC.One x) ∧ (∀ (l : List SC),S1.One (.agg l) = allOne l) ∧ (allOne [] = True) ∧ (∀ (x : SC) (l : List SC),allOne (x :: l) = (SC.One x ∧ allOne l)) ∧ (∀ (x : Value),SC.One (.v x) = (x.oneCell' = true)) ∧ (∀ (i o : Nat),SC.One (.loc i o) = True) ∧ (∀ (i o n k : Nat),SC.One (.sl i o n k) = True) ∧ (∀ (f : FuncId) (p q : List SP),SC.One (.clo f p q) = True) ∧ (∀ (k : IntKind) (n : Int),Value.oneCell' (.int k n) = true) ∧ (∀ (b : Bool),Value.oneCell' (.bool b) = true) ∧ (∀ (s : ByteArray),Value.oneCell' (.string s) = true) ∧ (∀ (a : Option Addr),Value.oneCell' (.pointer a) = true) ∧ (∀ (a : Option Addr) (n k : Nat),Value.oneCell' (.slice a n k) = true) ∧ (∀ (r : Option Nat),Value.oneCell' (.map r) = true) ∧ (∀ (f : Fn) (a b : Array Value),Value.oneCell' (.func f a b) = true) ∧ (∀ (t : TypeId) (v : Value),Value.oneCell' (.iface t v) = true) ∧ (Value.oneCell' .nilIface = true) ∧ (Value.oneCell' .nilFunc = true) ∧ (∀ (x : Value),SP.sv (.v x) = vv x) ∧ (∀ (i o : Nat),SP.sv (.loc i o) = .one (.c (.loc i o))) ∧ (∀ (i : Nat),SP.sv (.row i) = .one (.c (.row i))) ∧ (∀ (c : Cfg),sps? c [] = some []) ∧ (∀ (c : Cfg) (x : Operand) (l : List Operand),sps? c (x :: l) = spB (c.ev x).sp? (sps? c l)) ∧ (∀ (p : SP) (q : List SP),spB (some p) (some q) = some (p :: q)) ∧ (∀ (x : Value),SV.sp? (.one (.c (.v x))) = some (.v x)) ∧ (∀ (i o : Nat),SV.sp? (.one (.c (.loc i o))) = some (.loc i o)) ∧ (∀ (i : Nat),SV.sp? (.one (.c (.row i))) = some (.row i)) ∧ (∀ (c : Cfg),partsS c [] = some []) ∧ (∀ (c : Cfg) (i : Nat) (x : Operand) (l : List (Nat × Operand)),partsS c ((i,x) :: l) = psB i (c.ev x) (partsS c l)) ∧ (∀ (i : Nat) (s : S1) (r : List (Nat × S1)),psB i (.one s) (some r) = some ((i,s) :: r)) ∧ (∀ (pl : List (Nat × Nat)) (acc : List SC),fillS pl acc [] = some acc) ∧ (∀ (pl : List (Nat × Nat)) (acc : List SC) (i : Nat) (s : S1) (r : List (Nat × S1)),fillS pl acc ((i,s) :: r) = (pl[i]?).bind fun p => if s.cells.length = p.2 ∧ p.1 + p.2 ≤ acc.length then fillS pl (splice acc p.1 s.cells) r else none) ∧ (∀ (l : List SC) (o : Nat) (m : List SC),splice l o m = l.take o ++ m ++ l.drop (o + m.length)) ∧ (∀ (n sz : Nat),placesS n sz = (List.range n).map fun i => (i * sz,sz)) ∧ (∀ (zs : List Value) (n sz : Nat),zerosS zs n sz = (List.range (n * sz)).map fun i => .v (zs.toArray[i % sz]!)) ∧ (∀ (x : Value),vv x = .one (.c (.v x))) ∧ (∀ (P : Program) (t : TypeId) (op : BinOp) (k k' : IntKind) (a b : Int) (N : Value → Prop) (els : Prop),binK P t op (.int k a) (.int k' b) N els = if isShift op then shiftK op k a b N else k = k' ∧ intBinK op k a b N) ∧ (∀ (P : Program) (t : TypeId) (op : BinOp) (a b : ByteArray) (N : Value → Prop) (els : Prop),binK P t op (.string a) (.string b) N els = strBinK op a b N) ∧ (∀ (P : Program) (t : TypeId) (a b : Bool) (N : Value → Prop) (els : Prop),binK P t .eql (.bool a) (.bool b) N els = (P.underlying t = some .bool ∧ N (.bool (a == b)))) ∧ (∀ (P : Program) (t : TypeId) (a b : Bool) (N : Value → Prop) (els : Prop),binK P t .neq (.bool a) (.bool b) N els = (P.underlying t = some .bool ∧ N (.bool (!(a == b))))) ∧ (∀ (P : Program) (t : TypeId) (u : TypeId) (v : Value) (N : Value → Prop) (els : Prop),binK P t .eql (.iface u v) (.nilIface) N els = ((∃ e,P.underlying t = some (.interface e)) ∧ N (.bool false))) ∧ (∀ (P : Program) (t : TypeId) (u : TypeId) (v : Value) (N : Value → Prop) (els : Prop),binK P t .neq (.iface u v) (.nilIface) N els = ((∃ e,P.underlying t = some (.interface e)) ∧ N (.bool true))) ∧ (∀ (P : Program) (t : TypeId) (a : Addr) (N : Value → Prop) (els : Prop),binK P t .eql (.pointer (some a)) (.pointer none) N els = ((∃ e,P.underlying t = some (.pointer e)) ∧ N (.bool false))) ∧ (∀ (P : Program) (t : TypeId) (a : Addr) (N : Value → Prop) (els : Prop),binK P t .neq (.pointer (some a)) (.pointer none) N els = ((∃ e,P.underlying t = some (.pointer e)) ∧ N (.bool true))) ∧ (∀ (P : Program) (t : TypeId) (a : Addr) (n m n' m' : Nat) (N : Value → Prop) (els : Prop),binK P t .eql (.slice (some a) n m) (.slice none n' m') N els = ((∃ e,P.underlying t = some (.slice e)) ∧ N (.bool false))) ∧ (∀ (P : Program) (t : TypeId) (a : Addr) (n m n' m' : Nat) (N : Value → Prop) (els : Prop),binK P t .neq (.slice (some a) n m) (.slice none n' m') N els = ((∃ e,P.underlying t = some (.slice e)) ∧ N (.bool true))) ∧ (∀ (P : Program) (t : TypeId)  (N : Value → Prop) (els : Prop),binK P t .eql (.pointer none) (.pointer none) N els = ((∃ e,P.underlying t = some (.pointer e)) ∧ N (.bool true))) ∧ (∀ (P : Program) (t : TypeId)  (N : Value → Prop) (els : Prop),binK P t .neq (.pointer none) (.pointer none) N els = ((∃ e,P.underlying t = some (.pointer e)) ∧ N (.bool false))) ∧ (∀ (P : Program) (t : TypeId) (n m n' m' : Nat) (N : Value → Prop) (els : Prop),binK P t .eql (.slice none n m) (.slice none n' m') N els = ((∃ e,P.underlying t = some (.slice e)) ∧ N (.bool true))) ∧ (∀ (P : Program) (t : TypeId) (n m n' m' : Nat) (N : Value → Prop) (els : Prop),binK P t .neq (.slice none n m) (.slice none n' m') N els = ((∃ e,P.underlying t = some (.slice e)) ∧ N (.bool false))) ∧ (isShift .add = false) ∧ (isShift .sub = false) ∧ (isShift .mul = false) ∧ (isShift .quo = false) ∧ (isShift .rem = false) := ⟨e_svals_n,e_svals_c,e_svB,e_cells_c,e_cells_a,e_one_c,e_one_a,e_ao_n,e_ao_c,e_o_v,e_o_l,e_o_sl,by intros;rfl,by intros;rfl,by intros;rfl,by intros;rfl,by intros;rfl,by intros;rfl,by intros;rfl,by intros;rfl,by intros;rfl,by intros;rfl,by intros;rfl,by intros;rfl,by intros;rfl,by intros;rfl,by intros;rfl,by intros;rfl,by intros;rfl,by intros;rfl,by intros;rfl,by intros;rfl,by intros;rfl,by intros;rfl,by intros;rfl,by intros;rfl,e_fill_c,by intros;rfl,by intros;rfl,by intros;rfl,by intros;rfl,by intros;rfl,by intros;rfl,by intros;rfl,by intros;rfl,by intros;rfl,by intros;rfl,by intros;rfl,e_b_ptn_neq,e_b_sln_eql,e_b_sln_neq,e_b_nnp_eql,e_b_nnp_neq,e_b_snn_eql,e_b_snn_neq,e_is_add,e_is_sub,e_is_mul,e_is_quo,e_is_rem⟩
theorem sx3 : (∀ (P : Program) (t : TypeId) (a : Addr) (N : Value → Prop) (els : Prop),binK P t .neq (.pointer (some a)) (.pointer none) N els = ((∃ e,P.underlying t = some (.pointer e)) ∧ N (.bool true))) ∧ (∀ (P : Program) (t : TypeId) (a : Addr) (n m n' m' : Nat) (N : Value → Prop) (els : Prop),binK P t .eql (.slice (some a) n m) (.slice none n' m') N els = ((∃ e,P.underlying t = some (.slice e)) ∧ N (.bool false))) ∧ (∀ (P : Program) (t : TypeId) (a : Addr) (n m n' m' : Nat) (N : Value → Prop) (els : Prop),binK P t .neq (.slice (some a) n m) (.slice none n' m') N els = ((∃ e,P.underlying t = some (.slice e)) ∧ N (.bool true))) ∧ (∀ (P : Program) (t : TypeId)  (N : Value → Prop) (els : Prop),binK P t .eql (.pointer none) (.pointer none) N els = ((∃ e,P.underlying t = some (.pointer e)) ∧ N (.bool true))) ∧ (∀ (P : Program) (t : TypeId)  (N : Value → Prop) (els : Prop),binK P t .neq (.pointer none) (.pointer none) N els = ((∃ e,P.underlying t = some (.pointer e)) ∧ N (.bool false))) ∧ (∀ (P : Program) (t : TypeId) (n m n' m' : Nat) (N : Value → Prop) (els : Prop),binK P t .eql (.slice none n m) (.slice none n' m') N els = ((∃ e,P.underlying t = some (.slice e)) ∧ N (.bool true))) ∧ (∀ (P : Program) (t : TypeId) (n m n' m' : Nat) (N : Value → Prop) (els : Prop),binK P t .neq (.slice none n m) (.slice none n' m') N els = ((∃ e,P.underlying t = some (.slice e)) ∧ N (.bool false))) ∧ (isShift .add = false) ∧ (isShift .sub = false) ∧ (isShift .mul = false) ∧ (isShift .quo = false) ∧ (isShift .rem = false) ∧ (isShift .and = false) ∧ (isShift .or = false) ∧ (isShift .xor = false) ∧ (isShift .shl = true) ∧ (isShift .shr = true) ∧ (isShift .andNot = false) ∧ (isShift .eql = false) ∧ (isShift .neq = false) ∧ (isShift .lss = false) ∧ (isShift .leq = false) ∧ (isShift .gtr = false) ∧ (isShift .geq = false) ∧ (∀ (k : IntKind) (a b : Int) (N : Value → Prop),intBinK .add k a b N = N (.int k (k.wrap (a + b)))) ∧ (∀ (k : IntKind) (a b : Int) (N : Value → Prop),intBinK .sub k a b N = N (.int k (k.wrap (a - b)))) ∧ (∀ (k : IntKind) (a b : Int) (N : Value → Prop),intBinK .mul k a b N = N (.int k (k.wrap (a * b)))) ∧ (∀ (k : IntKind) (a b : Int) (N : Value → Prop),intBinK .quo k a b N = (b ≠ 0 ∧ N (.int k (k.wrap (a.tdiv b))))) ∧ (∀ (k : IntKind) (a b : Int) (N : Value → Prop),intBinK .rem k a b N = (b ≠ 0 ∧ N (.int k (a.tmod b)))) ∧ (∀ (k : IntKind) (a b : Int) (N : Value → Prop),intBinK .and k a b N = N (.int k (bits .and k a b))) ∧ (∀ (k : IntKind) (a b : Int) (N : Value → Prop),intBinK .or k a b N = N (.int k (bits .or k a b))) ∧ (∀ (k : IntKind) (a b : Int) (N : Value → Prop),intBinK .xor k a b N = N (.int k (bits .xor k a b))) ∧ (∀ (k : IntKind) (a b : Int) (N : Value → Prop),intBinK .andNot k a b N = N (.int k (bits .andNot k a b))) ∧ (∀ (k : IntKind) (a b : Int) (N : Value → Prop),intBinK .eql k a b N = N (.bool (a == b))) ∧ (∀ (k : IntKind) (a b : Int) (N : Value → Prop),intBinK .neq k a b N = N (.bool (a != b))) ∧ (∀ (k : IntKind) (a b : Int) (N : Value → Prop),intBinK .lss k a b N = N (.bool (decide (a < b)))) ∧ (∀ (k : IntKind) (a b : Int) (N : Value → Prop),intBinK .leq k a b N = N (.bool (decide (a ≤ b)))) ∧ (∀ (k : IntKind) (a b : Int) (N : Value → Prop),intBinK .gtr k a b N = N (.bool (decide (b < a)))) ∧ (∀ (k : IntKind) (a b : Int) (N : Value → Prop),intBinK .geq k a b N = N (.bool (decide (b ≤ a)))) ∧ (∀ (k : IntKind) (a b : Int) (N : Value → Prop),shiftK .shl k a b N = (0 ≤ b ∧ N (.int k (k.wrap (a * 2 ^ (min b.toNat k.bits)))))) ∧ (∀ (k : IntKind) (a b : Int) (N : Value → Prop),shiftK .shr k a b N = (0 ≤ b ∧ N (.int k (a.fdiv (2 ^ (min b.toNat k.bits)))))) ∧ (∀ (a b : ByteArray) (N : Value → Prop),strBinK .add a b N = (a.size + b.size ≤ 9223372036854775807 ∧ N (.string (a ++ b)))) ∧ (∀ (a b : ByteArray) (N : Value → Prop),strBinK .eql a b N = N (.bool (a.toList == b.toList))) ∧ (∀ (a b : ByteArray) (N : Value → Prop),strBinK .neq a b N = N (.bool (!(a.toList == b.toList)))) ∧ (∀ (P : Program) (t : TypeId) (xs ys : Array Value) (N : Value → Prop) (els : Prop),binK P t .eql (.agg xs) (.agg ys) N els = ∃ r,StrEq P t xs ys r ∧ N (.bool r)) ∧ (∀ (P : Program) (t : TypeId) (xs ys : Array Value) (N : Value → Prop) (els : Prop),binK P t .neq (.agg xs) (.agg ys) N els = ∃ r,StrEq P t xs ys r ∧ N (.bool (!r))) ∧ (∀ (a b : ByteArray) (N : Value → Prop),strBinK .gtr a b N = N (.bool (!(Op.bytesLess a.toList b.toList || a.toList == b.toList)))) ∧ (∀ (a b : ByteArray) (N : Value → Prop),strBinK .leq a b N = N (.bool (Op.bytesLess a.toList b.toList || a.toList == b.toList))) ∧ (∀ (a b : ByteArray) (N : Value → Prop),strBinK .geq a b N = N (.bool (!Op.bytesLess a.toList b.toList))) ∧ (∀ (a b : ByteArray) (N : Value → Prop),strBinK .lss a b N = N (.bool (Op.bytesLess a.toList b.toList))) ∧ (∀ (k : Nat),argsEnv k [] = []) ∧ (∀ (k : Nat) (v : Value) (l : List Value),argsEnv k (v :: l) = (k,argsEnv.svOf v) :: argsEnv (k + 1) l) ∧ (∀ (cs : List Value),argsEnv.svOf (.agg cs.toArray) = .one (.agg (cs.map .v))) ∧ (∀ (k : IntKind) (n : Int),argsEnv.svOf (.int k n) = vv (.int k n)) ∧ (∀ (b : Bool),argsEnv.svOf (.bool b) = vv (.bool b)) ∧ (∀ (s : ByteArray),argsEnv.svOf (.string s) = vv (.string s)) ∧ (∀ (a : Option Addr),argsEnv.svOf (.pointer a) = vv (.pointer a)) ∧ (∀ (a : Option Addr) (n k : Nat),argsEnv.svOf (.slice a n k) = vv (.slice a n k)) ∧ (∀ (r : Option Nat),argsEnv.svOf (.map r) = vv (.map r)) ∧ (∀ (f : Fn) (a b : Array Value),argsEnv.svOf (.func f a b) = vv (.func f a b)) := ⟨e_b_ptn_neq,e_b_sln_eql,e_b_sln_neq,e_b_nnp_eql,e_b_nnp_neq,e_b_snn_eql,e_b_snn_neq,e_is_add,e_is_sub,e_is_mul,e_is_quo,e_is_rem,by intros;rfl,by intros;rfl,by intros;rfl,by intros;rfl,by intros;rfl,by intros;rfl,by intros;rfl,by intros;rfl,by intros;rfl,by intros;rfl,by intros;rfl,by intros;rfl,by intros;rfl,by intros;rfl,by intros;rfl,by intros;rfl,by intros;rfl,by intros;rfl,by intros;rfl,by intros;rfl,by intros;rfl,by intros;rfl,by intros;rfl,by intros;rfl,by intros;rfl,by intros;rfl,by intros;rfl,by intros;rfl,by intros;rfl,by intros;rfl,by intros;rfl,by intros;rfl,by intros;rfl,by intros;rfl,by intros;rfl,by intros;rfl,e_st_geq,e_st_lss,e_arg_n,e_arg_c,e_arg_a,e_arg_int,e_arg_bool,e_arg_string,e_arg_pointer,e_arg_slice,e_arg_map,e_arg_func⟩
theorem sx4 : (∀ (a b : ByteArray) (N : Value → Prop),strBinK .geq a b N = N (.bool (!Op.bytesLess a.toList b.toList))) ∧ (∀ (a b : ByteArray) (N : Value → Prop),strBinK .lss a b N = N (.bool (Op.bytesLess a.toList b.toList))) ∧ (∀ (k : Nat),argsEnv k [] = []) ∧ (∀ (k : Nat) (v : Value) (l : List Value),argsEnv k (v :: l) = (k,argsEnv.svOf v) :: argsEnv (k + 1) l) ∧ (∀ (cs : List Value),argsEnv.svOf (.agg cs.toArray) = .one (.agg (cs.map .v))) ∧ (∀ (k : IntKind) (n : Int),argsEnv.svOf (.int k n) = vv (.int k n)) ∧ (∀ (b : Bool),argsEnv.svOf (.bool b) = vv (.bool b)) ∧ (∀ (s : ByteArray),argsEnv.svOf (.string s) = vv (.string s)) ∧ (∀ (a : Option Addr),argsEnv.svOf (.pointer a) = vv (.pointer a)) ∧ (∀ (a : Option Addr) (n k : Nat),argsEnv.svOf (.slice a n k) = vv (.slice a n k)) ∧ (∀ (r : Option Nat),argsEnv.svOf (.map r) = vv (.map r)) ∧ (∀ (f : Fn) (a b : Array Value),argsEnv.svOf (.func f a b) = vv (.func f a b)) ∧ (∀ (t : TypeId) (v : Value),argsEnv.svOf (.iface t v) = vv (.iface t v)) ∧ (argsEnv.svOf .nilIface = vv .nilIface) ∧ (tupS [] = []) ∧ (∀ (cs l : List Value),tupS (.agg cs.toArray :: l) = .agg (cs.map .v) :: tupS l) ∧ (∀ (k : IntKind) (n : Int) (l : List Value),tupS (.int k n :: l) = .c (.v (.int k n)) :: tupS l) ∧ (∀ (b : Bool) (l : List Value),tupS (.bool b :: l) = .c (.v (.bool b)) :: tupS l) ∧ (∀ (s : ByteArray) (l : List Value),tupS (.string s :: l) = .c (.v (.string s)) :: tupS l) ∧ (∀ (a : Option Addr) (l : List Value),tupS (.pointer a :: l) = .c (.v (.pointer a)) :: tupS l) ∧ (∀ (a : Option Addr) (n k : Nat) (l : List Value),tupS (.slice a n k :: l) = .c (.v (.slice a n k)) :: tupS l) ∧ (∀ (r : Option Nat) (l : List Value),tupS (.map r :: l) = .c (.v (.map r)) :: tupS l) ∧ (∀ (f : Fn) (a b : Array Value) (l : List Value),tupS (.func f a b :: l) = .c (.v (.func f a b)) :: tupS l) ∧ (∀ (t : TypeId) (v : Value) (l : List Value),tupS (.iface t v :: l) = .c (.v (.iface t v)) :: tupS l) ∧ (∀ (l : List Value),tupS (.nilIface :: l) = .c (.v .nilIface) :: tupS l) ∧ (∀ (X : Ctx) (t : TypeId) (i k : Nat) (c : Cfg) (N : SV → Prop) (els : Prop),vcLoad X t (.one (.c (.ri i k))) c N els = els) ∧ (∀ (X : Ctx) (c : Cfg) (t : TypeId) (i k : Nat) (N : SV → Prop) (els : Prop),vcLoad2 X c t (.one (.c (.ri i k))) N els = ldRi (c.loc[i]?) k (aggOf X.P t) (szOf X.P t) N) ∧ (∀ (X : Ctx) (c : Cfg) (t : TypeId) (ad : Addr) (N : SV → Prop) (els : Prop),vcLoad2 X c t (.one (.c (.v (.pointer (some ad))))) N els = ldV X ad (aggOf X.P t) (szOf X.P t) N) ∧ (∀ (e sz n : Nat) (xs : List Value) (k : Nat) (z : Option Nat) (N : SV → Prop),ldRi (some (.row e sz n xs)) k (some false) z N = ∃ v,xs[k]? = some v ∧ N (vv v)) ∧ (∀ (e sz n : Nat) (xs : List Value) (k m : Nat) (N : SV → Prop),ldRi (some (.row e sz n xs)) k (some true) (some m) N = ∃ vs : List Value,vs.length = m ∧ (xs.drop k).take m = vs ∧ N (.one (.agg (vs.map .v)))) ∧ (∀ (X : Ctx) (ad : Addr) (z : Option Nat) (N : SV → Prop),ldV X ad (some false) z N = (ad.block ∉ X.own ∧ ∃ v,X.wi.cell? ad = some v ∧ N (vv v))) ∧ (∀ (X : Ctx) (ad : Addr) (m : Nat) (N : SV → Prop),ldV X ad (some true) (some m) N = (ad.block ∉ X.own ∧ ∃ vs : List Value,vs.length = m ∧ (∀ j v,vs[j]? = some v → X.wi.cell? (ad.add j) = some v) ∧ N (.one (.agg (vs.map .v))))) ∧ (∀ (i : Nat) (a b : Option TypeDesc) (N : Value → Prop) (els : Prop),convS (.one (.c (.row i))) a b N els = els) ∧ (∀ (c : Cfg) (i : Nat) (b b' : Bool) (N : Value → Prop) (els : Prop),vcConv2 c (.one (.c (.row i))) b b' N els = cvRow (c.loc[i]?) b b' N) ∧ (∀ (c : Cfg) (v : Value) (b b' : Bool) (N : Value → Prop) (els : Prop),vcConv2 c (.one (.c (.v v))) b b' N els = els) ∧ (∀ (e sz n : Nat) (xs : List Value) (N : Value → Prop),cvRow (some (.row e sz n xs)) true true N = (sz = 1 ∧ ∃ l,xs = bcells l ∧ N (.string (B l)))) ∧ (∀ (c : Cfg) (v : Value) (u : Option TypeDesc) (N : Value → Prop),lenB c (.one (.c (.v v))) u N = lenA (.one (.c (.v v))) u N) ∧ (∀ (c : Cfg) (i o n q : Nat) (u : Option TypeDesc) (N : Value → Prop),lenB c (.one (.c (.sl i o n q))) u N = lenA (.one (.c (.sl i o n q))) u N) ∧ (∀ (c : Cfg) (i e : Nat) (N : Value → Prop),lenB c (.one (.c (.row i))) (some (.slice e)) N = lenRowK (c.loc[i]?) N) ∧ (∀ (e sz n : Nat) (xs : List Value) (N : Value → Prop),lenRowK (some (.row e sz n xs)) N = N (.int .i64 n)) ∧ (∀ (a : Addr) (N : SV → Prop) (els : Prop),nilS (.one (.c (.v (.pointer (some a))))) N els = N (vv (.pointer (some a)))) ∧ (∀ (X : Ctx) (d : Option Tmp) (ty : TypeId) (pos : String) (af : Array Edge) (g : Option (Nat × Bool)) (c : Cfg) (N : Cfg → Prop) (t : TypeId) (x i : Operand),vcOp X ⟨d,.index t x i,ty,pos,af,g⟩ c N = idxK (c.ev x) (c.ev i) (isStrT X.P t) (fun r => nxt X d N c (vv r))) ∧ (∀ (X : Ctx) (d : Option Tmp) (ty : TypeId) (pos : String) (af : Array Edge) (g : Option (Nat × Bool)) (c : Cfg) (N : Cfg → Prop) (t : TypeId) (x : Operand) (lo hi : Option Operand),vcOp X ⟨d,.slice t x lo hi none,ty,pos,af,g⟩ c N = slcK c (c.ev x) (isStrT X.P t) (elemSz X.P t) (optI c lo) (optI c hi) (fun s => nxt X d N c s)) ∧ (∀ (X : Ctx) (d : Option Tmp) (ty : TypeId) (pos : String) (af : Array Edge) (g : Option (Nat × Bool)) (c : Cfg) (N : Cfg → Prop) (t : TypeId) (x y : Operand),vcOp X ⟨d,.makeSlice t x y,ty,pos,af,g⟩ c N = mslE (c.ev x) (mslK X d N c (c.ev x) (c.ev y) (elemInf X.P t)) (VO X ⟨d,.makeSlice t x y,ty,pos,af,g⟩ c N)) ∧ (∀ (k : IntKind) (l : Int) (a b : Prop),mslE (.one (.c (.v (.int k l)))) a b = if l = 0 then a else b) ∧ (∀ (X : Ctx) (d : Option Tmp) (ty : TypeId) (pos : String) (af : Array Edge) (g : Option (Nat × Bool)) (c : Cfg) (N : Cfg → Prop) (t : TypeId),vcOp X ⟨d,.makeMap t none,ty,pos,af,g⟩ c N = nxt X d N { c with loc := c.loc ++ [.map []] } (.one (.c (.row c.loc.length)))) ∧ (∀ (X : Ctx) (d : Option Tmp) (ty : TypeId) (pos : String) (af : Array Edge) (g : Option (Nat × Bool)) (c : Cfg) (N : Cfg → Prop) (t : TypeId) (m k x : Operand),vcOp X ⟨d,.insert t m k x,ty,pos,af,g⟩ c N = (d = none ∧ insK N c (c.ev m) (c.ev k) (c.ev x) (mapInf X.P t))) ∧ (∀ (X : Ctx) (d : Option Tmp) (ty : TypeId) (pos : String) (af : Array Edge) (g : Option (Nat × Bool)) (c : Cfg) (N : Cfg → Prop) (t : TypeId) (m k : Operand) (ok : Bool),vcOp X ⟨d,.lookup t m k ok,ty,pos,af,g⟩ c N = lkK c (c.ev m) (c.ev k) (mapInf X.P t) ok (fun s => nxt X d N c s)) ∧ (∀ (X : Ctx) (d : Option Tmp) (ty : TypeId) (pos : String) (af : Array Edge) (g : Option (Nat × Bool)) (c : Cfg) (N : Cfg → Prop) (t : TypeId) (x i : Operand),vcOp X ⟨d,.indexAddr t x i,ty,pos,af,g⟩ c N = ixK c (c.ev x) (c.ev i) (elemSz X.P t) (arrInf X.P t) (fun s => nxt X d N c s)) ∧ (∀ (X : Ctx) (d : Option Tmp) (ty : TypeId) (pos : String) (af : Array Edge) (g : Option (Nat × Bool)) (c : Cfg) (N : Cfg → Prop) (x y : Operand) (t u : TypeId),vcOp X ⟨d,.call { callee := .builtin .append,args := #[x,y],argTypes := #[t,u] },ty,pos,af,g⟩ c N = appK X d N c (c.ev x) x y (t == u) (isStrT X.P u) (elemInf X.P t) (VO X ⟨d,.call { callee := .builtin .append,args := #[x,y],argTypes := #[t,u] },ty,pos,af,g⟩ c N)) ∧ (∀ (X : Ctx) (d : Option Tmp) (ty : TypeId) (pos : String) (af : Array Edge) (g : Option (Nat × Bool)) (c : Cfg) (N : Cfg → Prop) (x y : Operand) (ts : Array TypeId),vcOp X ⟨d,.call { callee := .builtin .min,args := #[x,y],argTypes := ts },ty,pos,af,g⟩ c N = minK (c.ev x) (c.ev y) (fun r => nxt X d N c (vv r))) ∧ (∀ (b : ByteArray) (k : IntKind) (n : Int) (N : Value → Prop),idxK (.one (.c (.v (.string b)))) (.one (.c (.v (.int k n)))) true N = (0 ≤ n ∧ n < b.size ∧ N (.int .u8 (bget b n.toNat).toNat))) ∧ (∀ (c : Cfg) (b : ByteArray) (es : Option (TypeId × Nat)) (l h : Option Int) (N : SV → Prop),slcK c (.one (.c (.v (.string b)))) true es (some l) (some h) N = (0 ≤ l.getD 0 ∧ l.getD 0 ≤ h.getD b.size ∧ h.getD b.size ≤ b.size ∧ N (vv (.string (b.extract (l.getD 0).toNat (h.getD b.size).toNat))))) ∧ (∀ (c : Cfg) (j off n k e sz : Nat) (b : Bool) (l h : Option Int) (N : SV → Prop),slcK c (.one (.c (.sl j off n k))) b (some (e,sz)) (some l) (some h) N = (0 ≤ l.getD 0 ∧ l.getD 0 ≤ h.getD n ∧ h.getD n ≤ k ∧ N (.one (.c (.sl j (slOff k off sz l) ((h.getD n).toNat - (l.getD 0).toNat) (k - (l.getD 0).toNat)))))) ∧ (∀ (k off sz : Nat),slOff k off sz none = off) ∧ (∀ (k off sz : Nat) (l : Int),slOff k off sz (some l) = if k = l.toNat then off else off + l.toNat * sz) ∧ (∀ (c : Cfg) (i e sz : Nat) (b : Bool) (l h : Option Int) (N : SV → Prop),slcK c (.one (.c (.row i))) b (some (e,sz)) (some l) (some h) N = slcRow (c.loc[i]?) l h N) ∧ (∀ (e sz n : Nat) (xs : List Value) (l h : Option Int) (N : SV → Prop),slcRow (some (.row e sz n xs)) l h N = (0 ≤ l.getD 0 ∧ l.getD 0 ≤ h.getD n ∧ h.getD n ≤ n ∧ N (.one (.c .dead)))) ∧ (∀ (c : Cfg),optI c none = some none) ∧ (∀ (c : Cfg) (x : Operand),optI c (some x) = optJ (c.ev x)) := ⟨e_st_geq,e_st_lss,e_arg_n,e_arg_c,e_arg_a,e_arg_int,e_arg_bool,e_arg_string,e_arg_pointer,e_arg_slice,e_arg_map,e_arg_func,by intros;rfl,by intros;rfl,by intros;rfl,by intros;rfl,by intros;rfl,by intros;rfl,by intros;rfl,by intros;rfl,by intros;rfl,by intros;rfl,by intros;rfl,by intros;rfl,by intros;rfl,by intros;rfl,by intros;rfl,by intros;rfl,by intros;rfl,by intros;rfl,by intros;rfl,by intros;rfl,by intros;rfl,by intros;rfl,by intros;rfl,by intros;rfl,by intros;rfl,by intros;rfl,e_lenB_r,by intros;rfl,by intros;rfl,by intros;rfl,by intros;rfl,by intros;rfl,by intros;rfl,by intros;rfl,by intros;rfl,by intros;rfl,e_indexAddr,e_append,e_min,e_idx_s,e_slc_s,e_slc_sl,e_slOff_n,e_slOff_s,e_slc_r,e_slcRow,e_optI_n,e_optI_s⟩
theorem sx5 : (∀ (X : Ctx) (d : Option Tmp) (ty : TypeId) (pos : String) (af : Array Edge) (g : Option (Nat × Bool)) (c : Cfg) (N : Cfg → Prop) (t : TypeId) (x i : Operand),vcOp X ⟨d,.indexAddr t x i,ty,pos,af,g⟩ c N = ixK c (c.ev x) (c.ev i) (elemSz X.P t) (arrInf X.P t) (fun s => nxt X d N c s)) ∧ (∀ (X : Ctx) (d : Option Tmp) (ty : TypeId) (pos : String) (af : Array Edge) (g : Option (Nat × Bool)) (c : Cfg) (N : Cfg → Prop) (x y : Operand) (t u : TypeId),vcOp X ⟨d,.call { callee := .builtin .append,args := #[x,y],argTypes := #[t,u] },ty,pos,af,g⟩ c N = appK X d N c (c.ev x) x y (t == u) (isStrT X.P u) (elemInf X.P t) (VO X ⟨d,.call { callee := .builtin .append,args := #[x,y],argTypes := #[t,u] },ty,pos,af,g⟩ c N)) ∧ (∀ (X : Ctx) (d : Option Tmp) (ty : TypeId) (pos : String) (af : Array Edge) (g : Option (Nat × Bool)) (c : Cfg) (N : Cfg → Prop) (x y : Operand) (ts : Array TypeId),vcOp X ⟨d,.call { callee := .builtin .min,args := #[x,y],argTypes := ts },ty,pos,af,g⟩ c N = minK (c.ev x) (c.ev y) (fun r => nxt X d N c (vv r))) ∧ (∀ (b : ByteArray) (k : IntKind) (n : Int) (N : Value → Prop),idxK (.one (.c (.v (.string b)))) (.one (.c (.v (.int k n)))) true N = (0 ≤ n ∧ n < b.size ∧ N (.int .u8 (bget b n.toNat).toNat))) ∧ (∀ (c : Cfg) (b : ByteArray) (es : Option (TypeId × Nat)) (l h : Option Int) (N : SV → Prop),slcK c (.one (.c (.v (.string b)))) true es (some l) (some h) N = (0 ≤ l.getD 0 ∧ l.getD 0 ≤ h.getD b.size ∧ h.getD b.size ≤ b.size ∧ N (vv (.string (b.extract (l.getD 0).toNat (h.getD b.size).toNat))))) ∧ (∀ (c : Cfg) (j off n k e sz : Nat) (b : Bool) (l h : Option Int) (N : SV → Prop),slcK c (.one (.c (.sl j off n k))) b (some (e,sz)) (some l) (some h) N = (0 ≤ l.getD 0 ∧ l.getD 0 ≤ h.getD n ∧ h.getD n ≤ k ∧ N (.one (.c (.sl j (slOff k off sz l) ((h.getD n).toNat - (l.getD 0).toNat) (k - (l.getD 0).toNat)))))) ∧ (∀ (k off sz : Nat),slOff k off sz none = off) ∧ (∀ (k off sz : Nat) (l : Int),slOff k off sz (some l) = if k = l.toNat then off else off + l.toNat * sz) ∧ (∀ (c : Cfg) (i e sz : Nat) (b : Bool) (l h : Option Int) (N : SV → Prop),slcK c (.one (.c (.row i))) b (some (e,sz)) (some l) (some h) N = slcRow (c.loc[i]?) l h N) ∧ (∀ (e sz n : Nat) (xs : List Value) (l h : Option Int) (N : SV → Prop),slcRow (some (.row e sz n xs)) l h N = (0 ≤ l.getD 0 ∧ l.getD 0 ≤ h.getD n ∧ h.getD n ≤ n ∧ N (.one (.c .dead)))) ∧ (∀ (c : Cfg),optI c none = some none) ∧ (∀ (c : Cfg) (x : Operand),optI c (some x) = optJ (c.ev x)) ∧ (∀ (k : IntKind) (n : Int),optJ (.one (.c (.v (.int k n)))) = some (some n)) ∧ (∀ (X : Ctx) (d : Option Tmp) (N : Cfg → Prop) (c : Cfg) (k k' : IntKind) (l n : Int) (e sz by_ : Nat) (z : Value),mslK X d N c (.one (.c (.v (.int k l)))) (.one (.c (.v (.int k' n)))) (some (e,sz,by_,z)) = (l = 0 ∧ 0 ≤ n ∧ sz * n.toNat ≤ 16777216 ∧ by_ * n.toNat ≤ 16777216 ∧ nxt X d N { c with loc := c.loc ++ [.row e sz 0 []] } (.one (.c (.row c.loc.length))))) ∧ (∀ (X : Ctx) (d : Option Tmp) (N : Cfg → Prop) (c : Cfg) (j off n k : Nat) (x y : Operand) (tu b : Bool) (els : Prop) (ei : Option (TypeId × Nat × Nat × Value)),appK X d N c (.one (.c (.sl j off n k))) x y tu b ei els = els) ∧ (∀ (X : Ctx) (d : Option Tmp) (N : Cfg → Prop) (c : Cfg) (i : Nat) (x y : Operand) (tu b : Bool) (els : Prop) (ei : Option (TypeId × Nat × Nat × Value)),appK X d N c (.one (.c (.row i))) x y tu b ei els = appRow X d N c (c.loc[i]?) (c.ev y) tu b i ei) ∧ (∀ (X : Ctx) (d : Option Tmp) (N : Cfg → Prop) (c : Cfg) (t : Tmp) (y : Operand) (els : Prop) (tu b : Bool) (e sz by_ : Nat) (z : Value),appK X d N c (.one (.c (.v (.slice none 0 0)))) (.tmp t) y tu b (some (e,sz,by_,z)) els = appNil2 X d N { env := (t,.one (.c (.row c.loc.length))) :: c.env,loc := c.loc ++ [.row e sz 0 []] } c.loc.length y tu b e sz by_ z) ∧ (∀ (X : Ctx) (d : Option Tmp) (N : Cfg → Prop) (c : Cfg) (i : Nat) (y : Operand) (tu b : Bool) (e sz by_ : Nat) (z : Value),appNil2 X d N c i y tu b e sz by_ z = appY X d N c (c.ev y) z tu b i e sz by_ 0 []) ∧ (∀ (X : Ctx) (d : Option Tmp) (N : Cfg → Prop) (c : Cfg) (e' sz' n : Nat) (xs : List Value) (y : SV) (tu b : Bool) (i e sz by_ : Nat) (z : Value),appRow X d N c (some (.row e' sz' n xs)) y tu b i (some (e,sz,by_,z)) = (e' = e ∧ sz' = sz ∧ appY X d N c y z tu b i e sz by_ n xs)) ∧ (∀ (X : Ctx) (d : Option Tmp) (N : Cfg → Prop) (c : Cfg) (j m k : Nat) (z : Value) (tu b : Bool) (i e sz by_ n : Nat) (xs : List Value),appY X d N c (.one (.c (.sl j 0 m k))) z tu b i e sz by_ n xs = (tu = true ∧ appLit (c.loc[j]?) m sz (fun news => appEnd X d N c i e sz n m by_ xs news))) ∧ (∀ (X : Ctx) (d : Option Tmp) (N : Cfg → Prop) (c : Cfg) (s : ByteArray) (z : Value) (tu b : Bool) (i e sz by_ n : Nat) (xs : List Value),appY X d N c (.one (.c (.v (.string s)))) z tu b i e sz by_ n xs = (b = true ∧ z = .int .u8 0 ∧ sz = 1 ∧ by_ = 1 ∧ appEnd X d N c i e sz n s.size by_ xs (bcells s.data.toList))) ∧ (∀ (l : List SC) (t : TypeId) (m sz : Nat) (N : List Value → Prop),appLit (some (.cells l t)) m sz N = appNews m sz (vals? l) N) ∧ (∀ (m sz : Nat) (news : List Value) (N : List Value → Prop),appNews m sz (some news) N = (news.length = m * sz ∧ (news.all fun u => u.oneCell') = true ∧ N news)) ∧ (∀ (X : Ctx) (d : Option Tmp) (N : Cfg → Prop) (c : Cfg) (i e sz n m by_ : Nat) (xs news : List Value),appEnd X d N c i e sz n m by_ xs news = ((n + m) * (by_ + 1) ≤ 140737488355328 ∧ nxt X d N { c with loc := c.loc.set i .gone ++ [.row e sz (n + m) (xs ++ news)] } (.one (.c (.row c.loc.length))))) ∧ (∀ (k k' : IntKind) (a b : Int),keyEq (.int k a) (.int k' b) = (a == b)) ∧ (∀ (a b : ByteArray),keyEq (.string a) (.string b) = (a.toList == b.toList)) ∧ (∀ (k : Value) (N : Option S1 → Prop),lkS k N [] = N none) ∧ (∀ (k k0 : Value) (s : S1) (N : Option S1 → Prop) (es : List (Value × S1)),lkS k N ((k0,s) :: es) = bif2 (keyEq k k0) (N (some s)) (lkS k N es)) ∧ (∀ (N : Cfg → Prop) (c : Cfg) (i : Nat) (k x : SV) (mi : Option (TypeDesc × Value)),insK N c (.one (.c (.row i))) k x mi = insMap N c (c.loc[i]?) i k x mi) ∧ (∀ (N : Cfg → Prop) (c : Cfg) (i : Nat) (es : List (Value × S1)) (kv z : Value) (s : S1) (kd : TypeDesc),insMap N c (some (.map es)) i (.one (.c (.v kv))) (.one s) (some (kd,z)) = (KeyOf kd kv = true ∧ (es.all fun p => KeyOf kd p.1) = true ∧ lkS kv (fun r => r.isNone = true ∧ N { c with loc := c.loc.set i (.map (es ++ [(kv,s)])) }) es)) ∧ (∀ (c : Cfg) (i : Nat) (k : SV) (mi : Option (TypeDesc × Value)) (ok : Bool) (N : SV → Prop),lkK c (.one (.c (.row i))) k mi ok N = lkMap (c.loc[i]?) k mi ok N) ∧ (∀ (es : List (Value × S1)) (kv z : Value) (kd : TypeDesc) (ok : Bool) (N : SV → Prop),lkMap (some (.map es)) (.one (.c (.v kv))) (some (kd,z)) ok N = (KeyOf kd kv = true ∧ (es.all fun p => KeyOf kd p.1) = true ∧ lkS kv (fun r => lkEnd ok z r N) es)) ∧ (∀ (z : Value) (r : Option S1) (N : SV → Prop),lkEnd true z r N = N (.tup [r.getD (s1Of z),.c (.v (.bool r.isSome))])) ∧ (∀ (z : Value) (r : Option S1) (N : SV → Prop),lkEnd false z r N = N (.one (r.getD (s1Of z)))) ∧ (∀ (k k' : IntKind) (n : Int),KeyOf (.int k) (.int k' n) = (k == k')) ∧ (∀ (s : ByteArray),KeyOf .string (.string s) = true) ∧ (∀ (c : Cfg) (r : Nat) (k : IntKind) (j : Int) (es : Option (TypeId × Nat)) (ai : Option (Nat × Nat)) (N : SV → Prop),ixK c (.one (.c (.row r))) (.one (.c (.v (.int k j)))) es ai N = ixRow (c.loc[r]?) r j es N) ∧ (∀ (c : Cfg) (ad : Addr) (n m e sz : Nat) (k : IntKind) (j : Int) (ai : Option (Nat × Nat)) (N : SV → Prop),ixK c (.one (.c (.v (.slice (some ad) n m)))) (.one (.c (.v (.int k j)))) (some (e,sz)) ai N = (0 ≤ j ∧ j < n ∧ N (vv (.pointer (some (ad.add (j.toNat * sz))))))) ∧ (∀ (c : Cfg) (q off n m e sz : Nat) (k : IntKind) (j : Int) (ai : Option (Nat × Nat)) (N : SV → Prop),ixK c (.one (.c (.sl q off n m))) (.one (.c (.v (.int k j)))) (some (e,sz)) ai N = (0 ≤ j ∧ j < n ∧ N (.one (.c (.loc q (off + j.toNat * sz)))))) ∧ (∀ (c : Cfg) (q off n sz : Nat) (es : Option (TypeId × Nat)) (k : IntKind) (j : Int) (N : SV → Prop),ixK c (.one (.c (.loc q off))) (.one (.c (.v (.int k j)))) es (some (n,sz)) N = (0 ≤ j ∧ j < (n : Int) ∧ N (.one (.c (.loc q (off + j.toNat * sz)))))) ∧ (∀ (e sz n r e' sz' : Nat) (xs : List Value) (j : Int) (N : SV → Prop),ixRow (some (.row e sz n xs)) r j (some (e',sz')) N = (sz = sz' ∧ 0 ≤ j ∧ j < n ∧ N (.one (.c (.ri r (j.toNat * sz)))))) ∧ (∀ (k k' : IntKind) (n m : Int) (N : Value → Prop),minK (.one (.c (.v (.int k n)))) (.one (.c (.v (.int k' m)))) N = N (.int k (if m < n then m else n))) ∧ (∀ (cs : List Value),s1Of (.agg cs.toArray) = .agg (cs.map .v)) ∧ (s1Of .nilIface = .c (.v .nilIface)) ∧ (s1Of .nilFunc = .c (.v .nilFunc)) ∧ (∀ (k : IntKind) (n : Int),s1Of (.int k n) = .c (.v (.int k n))) ∧ (∀ (b : Bool),s1Of (.bool b) = .c (.v (.bool b))) ∧ (∀ (s : ByteArray),s1Of (.string s) = .c (.v (.string s))) ∧ (∀ (a : Option Addr),s1Of (.pointer a) = .c (.v (.pointer a))) ∧ (∀ (a : Option Addr) (n k : Nat),s1Of (.slice a n k) = .c (.v (.slice a n k))) ∧ (∀ (r : Option Nat),s1Of (.map r) = .c (.v (.map r))) ∧ (∀ (i : Nat),SC.One (.row i) = True) ∧ (∀ (i k : Nat),SC.One (.ri i k) = True) ∧ (∀ (i k : Nat),SV.val? (.one (.c (.ri i k))) = none) ∧ (∀ (k : Nat),argsS k [] = []) ∧ (∀ (k : Nat) (s : SV) (l : List SV),argsS k (s :: l) = (k,s) :: argsS (k + 1) l) ∧ (∀ (X : Ctx) (rs : List ResultVar) (M : Cfg → SV → Prop) (c : Cfg),FinI X rs M .normal c = FinM X rs M c) ∧ (∀ (X : Ctx) (rs : List ResultVar) (M : Cfg → SV → Prop) (c : Cfg),FinI X rs M .ret c = FinM X rs M c) ∧ (∀ (X : Ctx) (c : Cfg),resL X c [] = some []) ∧ (∀ (X : Ctx) (c : Cfg) (r : ResultVar) (l : List ResultVar),resL X c (r :: l) = resB (resOne X c r) (resL X c l)) := ⟨e_indexAddr,e_append,e_min,e_idx_s,e_slc_s,e_slc_sl,e_slOff_n,e_slOff_s,e_slc_r,e_slcRow,e_optI_n,e_optI_s,by intros;rfl,by intros;rfl,by intros;rfl,by intros;rfl,by intros;rfl,by intros;rfl,by intros;rfl,by intros;rfl,by intros;rfl,by intros;rfl,by intros;rfl,by intros;rfl,by intros;rfl,by intros;rfl,by intros;rfl,by intros;rfl,by intros;rfl,by intros;rfl,by intros;rfl,by intros;rfl,by intros;rfl,by intros;rfl,by intros;rfl,by intros;rfl,by intros;rfl,by intros;rfl,by intros;rfl,by intros;rfl,by intros;rfl,by intros;rfl,by intros;rfl,by intros;rfl,by intros;rfl,by intros;rfl,by intros;rfl,by intros;rfl,e_s1_pointer,e_s1_slice,e_s1_map,e_o_r,e_o_ri,e_val_ri,e_as_n,e_as_c,e_fi_n,e_fi_r,e_rl_n,e_rl_c⟩
theorem sx6 : (∀ (a : Option Addr),s1Of (.pointer a) = .c (.v (.pointer a))) ∧ (∀ (a : Option Addr) (n k : Nat),s1Of (.slice a n k) = .c (.v (.slice a n k))) ∧ (∀ (r : Option Nat),s1Of (.map r) = .c (.v (.map r))) ∧ (∀ (i : Nat),SC.One (.row i) = True) ∧ (∀ (i k : Nat),SC.One (.ri i k) = True) ∧ (∀ (i k : Nat),SV.val? (.one (.c (.ri i k))) = none) ∧ (∀ (k : Nat),argsS k [] = []) ∧ (∀ (k : Nat) (s : SV) (l : List SV),argsS k (s :: l) = (k,s) :: argsS (k + 1) l) ∧ (∀ (X : Ctx) (rs : List ResultVar) (M : Cfg → SV → Prop) (c : Cfg),FinI X rs M .normal c = FinM X rs M c) ∧ (∀ (X : Ctx) (rs : List ResultVar) (M : Cfg → SV → Prop) (c : Cfg),FinI X rs M .ret c = FinM X rs M c) ∧ (∀ (X : Ctx) (c : Cfg),resL X c [] = some []) ∧ (∀ (X : Ctx) (c : Cfg) (r : ResultVar) (l : List ResultVar),resL X c (r :: l) = resB (resOne X c r) (resL X c l)) ∧ (∀ (s : S1) (r : List S1),resB (some s) (some r) = some (s :: r)) ∧ (∀ (X : Ctx) (c : Cfg) (t : Tmp),resOne X c (.tmp t) = svOne (c.get t)) ∧ (∀ (X : Ctx) (c : Cfg) (p : Tmp) (ty : TypeId),resOne X c (.cell p ty) = resPtr (aggOf X.P ty) (szOf X.P ty) c (c.get p)) ∧ (∀ (s : S1),svOne (.one s) = some s) ∧ (∀ (ag : Option Bool) (z : Option Nat) (c : Cfg) (i off : Nat),resPtr ag z c (.one (.c (.loc i off))) = resLoc ag z off (c.loc[i]?)) ∧ (∀ (ag : Option Bool) (z : Option Nat) (off : Nat) (l : List SC) (t : TypeId),resLoc ag z off (some (.cells l t)) = resCell ag z off l) ∧ (∀ (z : Option Nat) (off : Nat) (l : List SC),resCell (some false) z off l = (l[off]?).map .c) ∧ (∀ (n off : Nat) (l : List SC),resCell (some true) (some n) off l = if off + n ≤ l.length then some (.agg ((l.drop off).take n)) else none) ∧ (retS [] = .tup []) ∧ (∀ (s : S1),retS [s] = .one s) ∧ (∀ (a b : S1) (l : List S1),retS (a :: b :: l) = .tup (a :: b :: l)) ∧ (∀ (l : List UInt8),(B l).size = l.length) ∧ (∀ (l m : List UInt8),B l ++ B m = B (l ++ m)) ∧ (∀ (l : List UInt8),(B l).toList = l) ∧ (∀ (l : List UInt8) (n : Nat),bget (B l) n = l.getD n 0) ∧ (∀ (l : List UInt8) (a b : Nat),(B l).extract a b = B ((l.drop a).take (b - a))) ∧ (∀ (l : List UInt8),(B l).data.toList = l) ∧ (∀ (c : Cfg),envOk c [] = True) ∧ (∀ (c : Cfg) (t : Nat) (s : SV) (l : List (Nat × SV)),envOk c ((t,s) :: l) = (c.env.lookup t = some s ∧ envOk c l)) ∧ (∀ (c : Cfg) (f : List Nat),locOk c f [] [] = True) ∧ (∀ (c : Cfg) (f : List Nat) (o : LO) (l : List LO) (s : Nat) (sel : List Nat),locOk c f (o :: l) (s :: sel) = ((o = .gone ∨ c.loc[s]? = some (o.ren f)) ∧ locOk c f l sel)) ∧ (∀ (f : List Nat) (x : Value),SP.ren f (.v x) = .v x) ∧ (∀ (f : List Nat) (i o : Nat),SP.ren f (.loc i o) = .loc (f.getD i 0) o) ∧ (∀ (f : List Nat) (i : Nat),SP.ren f (.row i) = .row (f.getD i 0)) ∧ (∀ (f : List Nat) (x : Value),SC.ren f (.v x) = .v x) ∧ (∀ (f : List Nat) (i o : Nat),SC.ren f (.loc i o) = .loc (f.getD i 0) o) ∧ (∀ (f : List Nat) (i o n k : Nat),SC.ren f (.sl i o n k) = .sl (f.getD i 0) o n k) ∧ (∀ (f : List Nat) (i : Nat),SC.ren f (.row i) = .row (f.getD i 0)) ∧ (∀ (f : List Nat) (i k : Nat),SC.ren f (.ri i k) = .ri (f.getD i 0) k) ∧ (∀ (f : List Nat) (g : FuncId) (p q : List SP),SC.ren f (.clo g p q) = .clo g (p.map (SP.ren f)) (q.map (SP.ren f))) ∧ (∀ (f : List Nat) ,SC.ren f (.dead) = .dead) ∧ (∀ (f : List Nat) (x : SC),S1.ren f (.c x) = .c (x.ren f)) ∧ (∀ (f : List Nat) (l : List SC),S1.ren f (.agg l) = .agg (l.map (SC.ren f))) ∧ (∀ (f : List Nat) (x : S1),SV.ren f (.one x) = .one (x.ren f)) ∧ (∀ (f : List Nat) (l : List S1),SV.ren f (.tup l) = .tup (l.map (S1.ren f))) ∧ (∀ (f : List Nat) (l : List SC) (t : TypeId),LO.ren f (.cells l t) = .cells (l.map (SC.ren f)) t) ∧ (∀ (f : List Nat) (e sz n : Nat) (xs : List Value),LO.ren f (.row e sz n xs) = .row e sz n xs) ∧ (∀ (f : List Nat) (es : List (Value × S1)),LO.ren f (.map es) = .map (es.map fun p => (p.1,p.2.ren f))) ∧ (∀ (f : List Nat) (H : Value → List Nat → World → Prop),LO.ren f (.ext H) = .ext H) ∧ (∀ (f : List Nat),LO.ren f .gone = .gone) ∧ (∀ (n : Nat) (x : Value),SP.okB n (.v x) = true) ∧ (∀ (n i o : Nat),SP.okB n (.loc i o) = decide (i < n)) ∧ (∀ (n i : Nat),SP.okB n (.row i) = decide (i < n)) ∧ (∀ (n : Nat) (x : Value),SC.okB n (.v x) = true) ∧ (∀ (n : Nat) ,SC.okB n (.dead) = true) ∧ (∀ (n : Nat) (i o : Nat),SC.okB n (.loc i o) = decide (i < n)) ∧ (∀ (n : Nat) (i o m k : Nat),SC.okB n (.sl i o m k) = decide (i < n)) ∧ (∀ (n : Nat) (i : Nat),SC.okB n (.row i) = decide (i < n)) := ⟨e_s1_pointer,e_s1_slice,e_s1_map,e_o_r,e_o_ri,e_val_ri,e_as_n,e_as_c,e_fi_n,e_fi_r,e_rl_n,e_rl_c,by intros;rfl,by intros;rfl,by intros;rfl,by intros;rfl,by intros;rfl,by intros;rfl,by intros;rfl,by intros;rfl,by intros;rfl,by intros;rfl,by intros;rfl,e_B_size,e_B_append,e_B_toList,e_B_bget,e_B_extract,by intros;rfl,by intros;rfl,by intros;rfl,by intros;rfl,by intros;rfl,by intros;rfl,by intros;rfl,by intros;rfl,by intros;rfl,by intros;rfl,by intros;rfl,by intros;rfl,by intros;rfl,by intros;rfl,by intros;rfl,by intros;rfl,by intros;rfl,by intros;rfl,by intros;rfl,by intros;rfl,e_rnL_r,e_rnL_m,e_rnL_e,e_rnL_g,e_okP_v,e_okP_l,e_okP_r,e_okC_v,e_okC_dead,e_okC_loc,e_okC_sl,e_okC_row⟩
theorem sx7 : (∀ (f : List Nat) (e sz n : Nat) (xs : List Value),LO.ren f (.row e sz n xs) = .row e sz n xs) ∧ (∀ (f : List Nat) (es : List (Value × S1)),LO.ren f (.map es) = .map (es.map fun p => (p.1,p.2.ren f))) ∧ (∀ (f : List Nat) (H : Value → List Nat → World → Prop),LO.ren f (.ext H) = .ext H) ∧ (∀ (f : List Nat),LO.ren f .gone = .gone) ∧ (∀ (n : Nat) (x : Value),SP.okB n (.v x) = true) ∧ (∀ (n i o : Nat),SP.okB n (.loc i o) = decide (i < n)) ∧ (∀ (n i : Nat),SP.okB n (.row i) = decide (i < n)) ∧ (∀ (n : Nat) (x : Value),SC.okB n (.v x) = true) ∧ (∀ (n : Nat) ,SC.okB n (.dead) = true) ∧ (∀ (n : Nat) (i o : Nat),SC.okB n (.loc i o) = decide (i < n)) ∧ (∀ (n : Nat) (i o m k : Nat),SC.okB n (.sl i o m k) = decide (i < n)) ∧ (∀ (n : Nat) (i : Nat),SC.okB n (.row i) = decide (i < n)) ∧ (∀ (n : Nat) (i k : Nat),SC.okB n (.ri i k) = decide (i < n)) ∧ (∀ (n : Nat) (g : FuncId) (p q : List SP),SC.okB n (.clo g p q) = (p.all (SP.okB n) && q.all (SP.okB n))) ∧ (∀ (n : Nat) (x : SC),S1.okB n (.c x) = x.okB n) ∧ (∀ (n : Nat) (l : List SC),S1.okB n (.agg l) = l.all (SC.okB n)) ∧ (∀ (n : Nat) (x : S1),SV.okB n (.one x) = x.okB n) ∧ (∀ (n : Nat) (l : List S1),SV.okB n (.tup l) = l.all (S1.okB n)) ∧ (∀ (n : Nat) (l : List SC) (t : TypeId),LO.okB n (.cells l t) = l.all (SC.okB n)) ∧ (∀ (n e sz m : Nat) (xs : List Value),LO.okB n (.row e sz m xs) = true) ∧ (∀ (n : Nat) (es : List (Value × S1)),LO.okB n (.map es) = es.all fun p => p.2.okB n) ∧ (∀ (n : Nat) (H : Value → List Nat → World → Prop),LO.okB n (.ext H) = true) ∧ (∀ (n : Nat),LO.okB n .gone = true) ∧ (∀ (loc : List LO) (sel q : List Nat) (os : List LO),patchL loc sel q os = setAll loc sel ((os.take sel.length).map (LO.ren q)) ++ (os.drop sel.length).map (LO.ren q)) ∧ (∀ (l : List LO) (i : Nat) (sel : List Nat) (o : LO) (os : List LO),setAll l (i :: sel) (o :: os) = setAll (l.set i o) sel os) ∧ (∀ (l os : List LO),setAll l [] os = l) ∧ (∀ (l : List LO) (sel : List Nat),setAll l sel [] = l) ∧ (∀ (n : Nat) (sel : List Nat) (os : List LO),selN n sel os = sel ++ nums n (os.drop sel.length)) ∧ (∀ (n : Nat),nums n ([] : List LO) = []) ∧ (∀ (n : Nat) (o : LO) (l : List LO),nums n (o :: l) = n :: nums (n + 1) l) ∧ (List.range 0 = []) ∧ (List.range 1 = [0]) ∧ (List.range 2 = [0,1]) ∧ (List.range 3 = [0,1,2]) ∧ (List.range 4 = [0,1,2,3]) ∧ (List.range 5 = [0,1,2,3,4]) ∧ (List.range 6 = [0,1,2,3,4,5]) ∧ (List.range 7 = [0,1,2,3,4,5,6]) ∧ (List.range 8 = [0,1,2,3,4,5,6,7]) ∧ (List.range 9 = [0,1,2,3,4,5,6,7,8]) ∧ (List.range 10 = [0,1,2,3,4,5,6,7,8,9]) ∧ (List.range 11 = [0,1,2,3,4,5,6,7,8,9,10]) ∧ (List.range 12 = [0,1,2,3,4,5,6,7,8,9,10,11]) := ⟨e_rnL_r,e_rnL_m,e_rnL_e,e_rnL_g,e_okP_v,e_okP_l,e_okP_r,e_okC_v,e_okC_dead,e_okC_loc,e_okC_sl,e_okC_row,by intros;rfl,by intros;rfl,by intros;rfl,by intros;rfl,by intros;rfl,by intros;rfl,by intros;rfl,by intros;rfl,by intros;rfl,by intros;rfl,by intros;rfl,by intros;rfl,by intros;rfl,e_sa_n,e_sa_m,by intros;rfl,by intros;rfl,by intros;rfl,by intros;rfl,by intros;rfl,by intros;rfl,by intros;rfl,by intros;rfl,by intros;rfl,by intros;rfl,by intros;rfl,by intros;rfl,by intros;rfl,by intros;rfl,by intros;rfl,by intros;rfl⟩
section
variable {X : Ctx} {c : Cfg} {N : Cfg → Prop} {d : Option Tmp} {ty : TypeId} {pos : String} {af : Array Edge} {g : Option (Nat × Bool)}
theorem PO.move {x : Operand} : PO X ⟨d,.move x,ty,pos,af,g⟩ c (c.ev x) := fun ρ σ a w hr => ⟨a.eval x,rfl,hr.ev x⟩
theorem PO.assign {x : Operand} : PO X ⟨d,.assign x,ty,pos,af,g⟩ c (c.ev x) := fun ρ σ a w hr => ⟨a.eval x,rfl,hr.ev x⟩
theorem PO.load1 {t : TypeId} {x : Operand} {i off : Nat} {l : List SC} {t' : TypeId} {s : SC} (hx : c.ev x = .one (.c (.loc i off))) (ht : aggOf X.P t = some false)
    (hi : c.loc[i]? = some (.cells l t')) (hs : l[off]? = some s) : PO X ⟨d,.load t x,ty,pos,af,g⟩ c (.one (.c s)) := fun ρ σ a w hr => by
  have hv := hr.ev x
  rw [hx] at hv
  obtain ⟨b,hb,e⟩ := hv
  obtain ⟨cs,hw,ha,_⟩ := hr.getLoc hi hb
  obtain ⟨v,hv',hd⟩ := ha.get hs
  have hc : w.cell? ⟨b,off,none⟩ = some v := by rw [cell_of_row w b off _ _ _ hw];simpa using hv'
  exact ⟨v,by simp [execOp,e,Instr.loadAt,Instr.sureAddr,loadVar,isAgg_run ht,hc],hd⟩
theorem PO.loadN {t : TypeId} {x : Operand} {i off n : Nat} {l : List SC} {t' : TypeId} (hx : c.ev x = .one (.c (.loc i off))) (ht : aggOf X.P t = some true) (hz : szOf X.P t = some n)
    (hi : c.loc[i]? = some (.cells l t')) (hn : off + n ≤ l.length) : PO X ⟨d,.load t x,ty,pos,af,g⟩ c (.one (.agg ((l.drop off).take n))) := fun ρ σ a w hr => by
  have hv := hr.ev x
  rw [hx] at hv
  obtain ⟨b,hb,e⟩ := hv
  obtain ⟨cs,hw,ha,_⟩ := hr.getLoc hi hb
  have hl : ((cs.drop off).take n).length = n := by have := ha.length;simp;omega
  have hrun : (loadCells ⟨b,off,none⟩ n).run X.P w = .ok ((cs.drop off).take n).toArray w := by
    have := run_loadCells_list (P := X.P) w ⟨b,off,none⟩ ((cs.drop off).take n) (fun j v hv => by
      rw [add_add,cell_of_row w b _ _ _ _ hw]
      rw [List.getElem?_take] at hv
      split at hv
      · simpa using hv
      · simp at hv)
    rw [hl] at this
    exact this
  exact ⟨.agg ((cs.drop off).take n).toArray,by simp [execOp,e,Instr.loadAt,Instr.sureAddr,loadVar,isAgg_run ht,sizeOf_run hz,hrun],⟨_,rfl,(ha.drop off).take n⟩⟩
def SO (X : Ctx) (o : Oper) (c : Cfg) : Prop := ∀ ρ σ a w,Rel X c ρ σ a w → (execOp a.eval o).run X.P w = .ok .skip w
theorem setRow_same {w : World} {b : Nat} {cs : Array Value} {t : TypeId} {fr : Nat × Nat} (h : w.heap[b]? = some (.cells cs t fr)) : w.setRow b cs = w := by
  have : (w.setRow b cs).heap = w.heap := by
    apply Array.ext'
    apply List.ext_getElem?
    intro k
    simp only [World.setRow,Array.getElem?_toList,Array.getElem?_modify]
    split
    · rename_i e;subst e;rw [h];rfl
    · rfl
  cases w
  simp only [World.setRow] at this ⊢
  rw [this]
theorem SO.store {t : TypeId} {x y : Operand} {i off n : Nat} {l : List SC} {t' : TypeId} {s : S1} {vs : List Value} (hx : c.ev x = .one (.c (.loc i off))) (hy : c.ev y = .one s) (ho : s.One)
    (hz : szOf X.P t = some n) (hn : s.cells.length = n) (hi : c.loc[i]? = some (.cells l t')) (hl : off + n ≤ l.length) (hv : vals? l = some vs) (hs : splice l off s.cells = l) : SO X ⟨none,.store t x y,ty,pos,af,g⟩ c := fun ρ σ a w hr => by
  have hv1 := hr.ev x
  rw [hx] at hv1
  obtain ⟨b,hb,e⟩ := hv1
  have hv2 := hr.ev y
  rw [hy] at hv2
  obtain ⟨ha2,h1⟩ := ho.cells hr.one hv2
  obtain ⟨cs,hw,ha,_⟩ := hr.getLoc hi hb
  have hlen := ha2.length
  have hcl := ha.length
  have hrun := run_storeCells_at X.P b off t' (a.eval y).cells.toList 0 cs.toArray w hw (by simp at hlen hcl ⊢;omega) h1
  have hnew : All2 (DC σ) (splice l off s.cells) (cs.take off ++ (a.eval y).cells.toList ++ cs.drop (off + s.cells.length)) := (All2.append (All2.append (ha.take off) ha2) (ha.drop _))
  rw [hs] at hnew
  have e1 := vals?_spec hv hnew
  have e2 := vals?_spec hv ha
  have hsz : (a.eval y).cells.size = n := by simp at hlen;omega
  simp only [execOp,Instr.storeAt,Instr.sureAddr,e,storeVar,Sem.run_bind,Sem.run_pure,Result.andThen,sizeOf_run hz,hsz]
  simp only [ne_eq,not_true_eq_false,if_false]
  simp only [Nat.add_zero] at hrun
  rw [hrun]
  have hsame : (cs.toArray.toList.take off ++ (a.eval y).cells.toList ++ cs.toArray.toList.drop (off + (a.eval y).cells.toList.length)) = cs := by
    have : (a.eval y).cells.toList.length = s.cells.length := by simp at hlen ⊢;omega
    rw [this]
    simp only [List.toList_toArray]
    rw [e1,e2]
  simp only [hsame]
  rw [setRow_same hw]
def VP (X : Ctx) (o : Oper) (c : Cfg) (N : Cfg → Prop) : Prop := (∃ s,PO X o c s ∧ nxt X o.dst N c s) ∨ (o.dst = none ∧ SO X o c ∧ N c)
def samA (o : Option LO) (z : Option Nat) (off : Nat) (s : S1) (N : Prop) : Prop := match o,z with
  | some (.cells l _),some n => s.One ∧ s.cells.length = n ∧ off + n ≤ l.length ∧ (vals? l).isSome = true ∧ splice l off s.cells = l ∧ N
  | _,_ => False
def vpStore (X : Ctx) (t : TypeId) (s y : SV) (c : Cfg) (N : Prop) : Prop := match s,y with
  | .one (.c (.loc i off)),.one z => samA (c.loc[i]?) (szOf X.P t) off z N
  | _,_ => False
def vcP (X : Ctx) (o : Oper) (c : Cfg) (N : Cfg → Prop) : Prop :=
  match o with
  | ⟨d,op,ty,pos,af,g⟩ =>
    match op with
    | .move x => nxt X d N c (c.ev x)
    | .assign x => nxt X d N c (c.ev x)
    | .load t x => vcLoad X t (c.ev x) c (nxt X d N c) (vcLoad2 X c t (c.ev x) (nxt X d N c) (VP X ⟨d,.load t x,ty,pos,af,g⟩ c N))
    | .store t x y => d = none ∧ vpStore X t (c.ev x) (c.ev y) c (N c)
    | .slice t x lo hi none => slcK c (c.ev x) (isStrT X.P t) (elemSz X.P t) (optI c lo) (optI c hi) (nxt X d N c)
    | _ => VP X ⟨d,op,ty,pos,af,g⟩ c N
theorem vcP_sound {o : Oper} (h : vcP X o c N) : VP X o c N := by
  obtain ⟨d,op,ty,pos,af,g⟩ := o
  unfold vcP at h
  simp only at h
  split at h
  · exact .inl ⟨_,.move,h⟩
  · exact .inl ⟨_,.assign,h⟩
  · unfold vcLoad at h
    split at h
    · rename_i hx
      unfold loadA at h
      split at h
      · rename_i hl
        split at h
        · rename_i ha
          unfold load1S at h
          split at h
          · rename_i hs;exact .inl ⟨_,.load1 hx ha hl hs,h⟩
          · exact h.elim
        · rename_i ha
          split at h
          · rename_i hz;exact .inl ⟨_,.loadN hx ha hz hl h.1,h.2⟩
          · exact h.elim
        · exact h.elim
      · exact h.elim
    · unfold vcLoad2 at h
      split at h
      · rename_i hx
        unfold ldRi at h
        split at h
        · rename_i hl ha
          obtain ⟨v,h1,h2⟩ := h
          exact .inl ⟨_,.loadRi hx hl ha h1,h2⟩
        · rename_i hl ha hz
          obtain ⟨vs,rfl,h1,h2⟩ := h
          exact .inl ⟨_,.loadRiN hx hl ha hz h1,h2⟩
        · exact h.elim
      · rename_i hx
        obtain ⟨ho,h⟩ := h
        split at h
        · rename_i ha
          obtain ⟨v,h1,h2⟩ := h
          exact .inl ⟨_,.loadV hx ha h1 ho,h2⟩
        · rename_i ha hz
          obtain ⟨vs,rfl,h1,h2⟩ := h
          exact .inl ⟨_,.loadVN hx ha hz h1 ho,h2⟩
        · exact h.elim
      · exact h
  · obtain ⟨rfl,h⟩ := h
    unfold vpStore at h
    split at h
    · rename_i hx hy
      unfold samA at h
      split at h
      · rename_i hl hz
        obtain ⟨h1,h2,h3,h4,h5,h6⟩ := h
        obtain ⟨vs,hv⟩ := Option.isSome_iff_exists.1 h4
        exact .inr ⟨rfl,.store hx hy h1 hz h2 hl h3 hv h5,h6⟩
      · exact h.elim
    · exact h.elim
  · unfold slcK at h
    split at h
    · rename_i h1 h2 h3 h4;exact .inl ⟨_,.sliceS h1 (isStrT_spec h2) h3 h4 h.1 h.2.1 h.2.2.1,h.2.2.2⟩
    · rename_i h1 h2 h3 h4;exact .inl ⟨_,.sliceSl h1 h2 h3 h4 h.1 h.2.1 h.2.2.1,h.2.2.2⟩
    · rename_i h1 h2 h3 h4
      unfold slcRow at h
      split at h
      · rename_i h5;exact .inl ⟨_,.sliceRow h1 h5 h2 h3 h4 h.1 h.2.1 h.2.2.1,h.2.2.2⟩
      · exact h.elim
    · exact h.elim
  · exact h
def vh (X : Ctx) : List Oper → Cfg → (Cfg → Prop) → Prop
  | [],c,N => N c
  | o :: r,c,N => o.guard.isNone = true ∧ vcP X o c (fun c' => vh X r c' N)
theorem vh_sound {ops : Array Oper} {M : Cfg → Prop} {Q : Act → Prop} {ρ : List (List Nat)} {σ : List Value} {w : World} : ∀ (l : List Oper) (c : Cfg) (a : Act),vh X l c M → Rel X c ρ σ a w → (∀ c' a',Rel X c' ρ σ a' w → M c' → Q a') → wpStill X.P ops w Q l a
  | [],c,a,h,hr,hQ => hQ c a hr h
  | o :: l,c,a,h,hr,hQ => by
    obtain ⟨hg,h⟩ := h
    have hg : o.guard = none := by cases ho : o.guard <;> simp_all
    unfold wpStill
    rw [if_pos (by simp [Region.wanted,hg])]
    unfold Oper.still
    rcases vcP_sound h with ⟨s,hp,hd,hn⟩ | ⟨hd,hs,hn⟩
    · obtain ⟨v,hrun,hv⟩ := hp ρ σ a w hr
      rw [hrun]
      exact ⟨rfl,vh_sound l _ _ hn (hr.put hd hv) hQ⟩
    · rw [hs ρ σ a w hr]
      exact ⟨rfl,vh_sound l _ _ hn (by simpa [hd,Act.put] using hr) hQ⟩
theorem SX.draw {id : Nat} {l : List Oper} {K : Exit → Cfg → Prop} (n : Nat) (hm : X.P.follows .mixedOrders = true) (hB : Region.lexTailB .any l.toArray n = true)
    (h : vh X (l.take n) c (fun c' => vc X l.toArray (l.drop n) c' (K .normal))) : SX X (.region id l.toArray true) c K := fun ρ σ a w hr => by
  have hr' : Rel X c ρ σ a { w with drawn := w.drawn + 1 } := hr.below ⟨rfl,rfl,rfl,Nat.le_refl _,fun _ _ => rfl⟩
  refine wp_region_still_tail n hm hB (vh_sound _ c a h hr' (fun c' a' hr2 hM => ?_))
  exact vc_sound hM _ (fun c3 ρ3 σ3 a3 w3 hr3 hk => ⟨c3,ρ3,σ3,hr3,hk⟩) ρ σ a' _ hr2
theorem d_nil : ∀ (X : Ctx) (c : Cfg) (N : Cfg → Prop),vh X [] c N = N c := by intros;rfl
theorem d_cons : ∀ (X : Ctx) (o : Oper) (r : List Oper) (c : Cfg) (N : Cfg → Prop),vh X (o :: r) c N = (o.guard.isNone = true ∧ vcP X o c (fun c' => vh X r c' N)) := by intros;rfl
theorem d_move : ∀ (X : Ctx) (d : Option Tmp) (ty : TypeId) (pos : String) (af : Array Edge) (g : Option (Nat × Bool)) (c : Cfg) (N : Cfg → Prop) (x : Operand),vcP X ⟨d,.move x,ty,pos,af,g⟩ c N = nxt X d N c (c.ev x) := by intros;rfl
theorem d_assign : ∀ (X : Ctx) (d : Option Tmp) (ty : TypeId) (pos : String) (af : Array Edge) (g : Option (Nat × Bool)) (c : Cfg) (N : Cfg → Prop) (x : Operand),vcP X ⟨d,.assign x,ty,pos,af,g⟩ c N = nxt X d N c (c.ev x) := by intros;rfl
theorem d_load : ∀ (X : Ctx) (d : Option Tmp) (ty : TypeId) (pos : String) (af : Array Edge) (g : Option (Nat × Bool)) (c : Cfg) (N : Cfg → Prop) (t : TypeId) (x : Operand),vcP X ⟨d,.load t x,ty,pos,af,g⟩ c N = vcLoad X t (c.ev x) c (nxt X d N c) (vcLoad2 X c t (c.ev x) (nxt X d N c) (VP X ⟨d,.load t x,ty,pos,af,g⟩ c N)) := by intros;rfl
theorem d_store : ∀ (X : Ctx) (d : Option Tmp) (ty : TypeId) (pos : String) (af : Array Edge) (g : Option (Nat × Bool)) (c : Cfg) (N : Cfg → Prop) (t : TypeId) (x y : Operand),vcP X ⟨d,.store t x y,ty,pos,af,g⟩ c N = (d = none ∧ vpStore X t (c.ev x) (c.ev y) c (N c)) := by intros;rfl
theorem d_sto : ∀ (X : Ctx) (t : TypeId) (i off : Nat) (z : S1) (c : Cfg) (N : Prop),vpStore X t (.one (.c (.loc i off))) (.one z) c N = samA (c.loc[i]?) (szOf X.P t) off z N := by intros;rfl
theorem d_sam : ∀ (l : List SC) (t : TypeId) (n off : Nat) (z : S1) (N : Prop),samA (some (.cells l t)) (some n) off z N = (z.One ∧ z.cells.length = n ∧ off + n ≤ l.length ∧ (vals? l).isSome = true ∧ splice l off z.cells = l ∧ N) := by intros;rfl
theorem d_slice : ∀ (X : Ctx) (d : Option Tmp) (ty : TypeId) (pos : String) (af : Array Edge) (g : Option (Nat × Bool)) (c : Cfg) (N : Cfg → Prop) (t : TypeId) (x : Operand) (lo hi : Option Operand),vcP X ⟨d,.slice t x lo hi none,ty,pos,af,g⟩ c N = slcK c (c.ev x) (isStrT X.P t) (elemSz X.P t) (optI c lo) (optI c hi) (nxt X d N c) := by intros;rfl
def s1B (v : Option Value) (r : Option (List Value)) : Option (List Value) := match v,r with | some v,some r => some (v :: r) | _,_ => none
def s1vals? : List S1 → Option (List Value)
  | [] => some []
  | s :: l => s1B s.val? (s1vals? l)
theorem s1vals?_spec {σ : List Value} : ∀ {l : List S1} {vs us : List Value},s1vals? l = some vs → All2 (D1 σ) l us → us = vs
  | [],vs,[],h,_ => by simp [s1vals?] at h;exact h.symm
  | s :: l,vs,u :: us,h,ha => by
    simp only [s1vals?,s1B] at h
    split at h
    · rename_i v r h1 h2
      simp at h;subst h
      rw [S1.val?_spec h1 ha.1,s1vals?_spec h2 ha.2]
    · simp at h
  | [],_,_ :: _,_,h => h.elim
  | _ :: _,_,[],_,h => h.elim
def finB (X : Ctx) (R : Ending → World → Prop) (o : Option (List Value)) : Prop := match o with
  | some vs => ∀ w',Below X.wi.heap.size X.wi w' → R (.returned (retV vs)) w'
  | none => False
def finA (X : Ctx) (R : Ending → World → Prop) (o : Option (List S1)) : Prop := match o with
  | some ss => finB X R (s1vals? ss)
  | none => False
theorem Fin.res {fn : Func} {R : Ending → World → Prop} {rs : List ResultVar} (hrs : fn.results = rs.toArray) (hown : X.own = []) (h : finA X R (resL X c rs)) : Fin X fn R .ret c := by
  intro ρ σ a w hrel
  unfold finA at h
  split at h
  · rename_i ss hss
    unfold finB at h
    split at h
    · rename_i vs hvs
      obtain ⟨us,hu,hrun⟩ := results_run hrel hrs hss
      rw [s1vals?_spec hvs hu] at hrun
      exact ⟨_,hrun,h w (hrel.low.below (by simp [hown]))⟩
    · exact h.elim
  · exact h.elim
theorem f_a : ∀ (X : Ctx) (R : Ending → World → Prop) (ss : List S1),finA X R (some ss) = finB X R (s1vals? ss) := by intros;rfl
theorem f_b : ∀ (X : Ctx) (R : Ending → World → Prop) (vs : List Value),finB X R (some vs) = ∀ w',Below X.wi.heap.size X.wi w' → R (.returned (retV vs)) w' := by intros;rfl
theorem f_n : s1vals? [] = some [] := rfl
theorem f_c : ∀ (s : S1) (l : List S1),s1vals? (s :: l) = s1B s.val? (s1vals? l) := by intros;rfl
theorem f_B : ∀ (v : Value) (r : List Value),s1B (some v) (some r) = some (v :: r) := by intros;rfl
theorem f_v : ∀ (x : Value),S1.val? (.c (.v x)) = some x := by intros;rfl
theorem f_g : ∀ (l : List SC),S1.val? (.agg l) = (vals? l).map fun vs => .agg vs.toArray := by intros;rfl
theorem f_0 : retV [] = .tuple #[] := rfl
theorem f_1 : ∀ (v : Value),retV [v] = v := by intros;rfl
theorem f_2 : ∀ (u v : Value) (l : List Value),retV (u :: v :: l) = .tuple (u :: v :: l).toArray := by intros;rfl
end
inductive Pl where
  | f (i : Nat)
  | q (is : List Nat) (al : Option Nat)
  | s (i : Nat)
  | b (i j : Nat)
def setL (L : Array Bool) : List Nat → Array Bool
  | [] => L
  | i :: is => setL (L.setIfInBounds i true) is
section check
variable (ops : Array Oper)
def sinkT (L : Array Bool) (t : Nat) : List Nat → Bool
  | [] => true
  | i :: r => (Region.waitsFor .any ops t i || (r.any fun j => Region.waitsFor .any ops j i) || (List.range ops.size).any fun u => L.getD u false && Region.waitsFor .any ops u i) && sinkT L t r
def outOK (L : Array Bool) (is : List Nat) : Bool :=
  (List.range ops.size).all fun t => L.getD t true || is.contains t || ((List.range ops.size).any fun u => !(L.getD u true) && !is.contains u && Region.waitsFor .any ops t u) || sinkT ops L t is
def depsIn (L : Array Bool) (done : List Nat) (i : Nat) : Bool := match ops[i]? with
  | some o => o.after.all fun e => !Region.binds .any e || L.getD e.on false || done.contains e.on
  | none => false
def inOK (L : Array Bool) : List Nat → List Nat → Bool
  | _,[] => true
  | done,i :: r => !(L.getD i true) && !done.contains i && depsIn ops L done i && inOK L (i :: done) r
def dstOf (i : Nat) : Option Tmp := (ops[i]?).bind (·.dst)
def looksOf (i : Nat) : List Tmp := match ops[i]? with | some o => o.looksAt ops | none => []
def dataOK (is : List Nat) : Bool :=
  is.all fun i => is.all fun j => match dstOf ops j with
    | none => true
    | some d => (i == j || dstOf ops i != some d) && (!(looksOf ops i).contains d || (Region.waitsFor .any ops i j))
def listedOK (L : Array Bool) : Bool := (List.range ops.size).all fun j => !(L.getD j false) || (match ops[j]? with | some o => o.after.all fun e => !Region.binds .any e || L.getD e.on false | none => true)
def qOK (L : Array Bool) (is : List Nat) : Bool := listedOK ops L && inOK ops L [] is && dataOK ops is && outOK ops L is
def alL : Option Nat → List Nat
  | none => []
  | some k => [k]
def planOK : List Pl → Array Bool → Bool
  | [],L => (Region.ready .any ops L).isEmpty
  | .s i :: r,L => decide (Region.ready .any ops L = [i]) && planOK r (L.setIfInBounds i true)
  | .b i j :: r,L => decide (Region.ready .any ops L = [i,j]) && decide (Region.ready .any ops (L.setIfInBounds i true) = [j]) && decide (Region.ready .any ops (L.setIfInBounds j true) = [i]) && planOK r ((L.setIfInBounds i true).setIfInBounds j true) && planOK r ((L.setIfInBounds j true).setIfInBounds i true)
  | .f i :: r,L => (Region.ready .any ops L).contains i && Region.free .any ops L i && planOK r (L.setIfInBounds i true)
  | .q is al :: r,L => qOK ops L (is ++ alL al) && planOK r (setL L (is ++ alL al))
end check
section
variable {X : Ctx} {c : Cfg} {d : Option Tmp} {ty : TypeId} {pos : String} {af : Array Edge} {g : Option (Nat × Bool)}
def getSome (c : Cfg) (t : Tmp) : Option (Nat × SV) := (c.env.lookup t).map (t,·)
def Cfg.only (c : Cfg) (ts : List Tmp) : Cfg := ⟨ts.filterMap (getSome c),c.loc⟩
theorem only_lookup (ts : List Tmp) (t : Tmp) (s : SV) (h : (c.only ts).env.lookup t = some s) : t ∈ ts ∧ c.env.lookup t = some s := by
  unfold Cfg.only at h
  simp only at h
  induction ts with
  | nil => simp at h
  | cons u ts ih =>
    simp only [List.filterMap_cons,getSome] at h
    cases hu : c.env.lookup u with
    | none => rw [hu] at h;obtain ⟨h1,h2⟩ := ih h;exact ⟨by simp [h1],h2⟩
    | some su =>
      rw [hu] at h
      simp only [Option.map_some,List.lookup_cons] at h
      by_cases e : t = u
      · subst e;simp at h;subst h;exact ⟨by simp,hu⟩
      · have : (t == u) = false := by simpa using e
        rw [this] at h
        obtain ⟨h1,h2⟩ := ih h;exact ⟨by simp [h1],h2⟩
def QS (X : Ctx) (ops : Array Oper) (o : Oper) (c : Cfg) (s : SV) : Prop := ∀ ρ σ a w,Rel X c ρ σ a w → ∀ (K : Act → World → Prop) (Q : Exit → Act → World → Prop),
  (∀ v w',Below w.heap.size w w' → DV σ s v → K (a.put o.dst v) w') →
  if Region.wanted o (yielded ops a.tmps) then o.wp X.P a w K Q ∨ (o.asks X.P a w ∧ LetsOut Q) else K (a.put o.dst undef) w
def QA (X : Ctx) (o : Oper) (c : Cfg) (l : List SC) (t : TypeId) (s : SV) : Prop := ∀ ρ σ a w,Rel X c ρ σ a w → ∃ v cs,(execOp a.eval o).run X.P w = .ok (.value v) (w.alloc (.cells (List.toArray cs) t)) ∧ All2 (DC σ) l cs ∧ DV (σ ++ [ptr w.heap.size 0]) s v
def QV (X : Ctx) (o : Oper) (c : Cfg) (s : SV) : Prop := ∀ ρ σ a w,Rel X c ρ σ a w → ∃ v,(∀ w',(execOp a.eval o).run X.P w' = .ok (.value v) w') ∧ DV σ s v
theorem wp_of_value {P : Program} {o : Oper} {a : Act} {w w' : World} {v : Value} {K : Act → World → Prop} {Q : Exit → Act → World → Prop} (h : (execOp a.eval o).run P w = .ok (.value v) w') (hK : K (a.put o.dst v) w') : o.wp P a w K Q := by
  unfold Oper.wp
  rw [h]
  exact hK
theorem QS.of_po {ops : Array Oper} {o : Oper} {s : SV} (hg : o.guard = none) (h : PO X o c s) : QS X ops o c s := fun ρ σ a w hr K Q hK => by
  obtain ⟨v,h1,h2⟩ := h ρ σ a w hr
  rw [if_pos (by simp [Region.wanted,hg])]
  exact .inl (wp_of_value h1 (hK v w (Below.refl _ _) h2))
theorem QS.guarded {ops : Array Oper} {o : Oper} {s : SV} {j : Nat} {pol b : Bool} {t : Tmp} (hg : o.guard = some (j,pol)) (hj : (ops[j]?).bind (·.dst) = some t) (hb : c.env.lookup t = some (.one (.c (.v (.bool b)))))
    (h1 : b = pol → PO X o c s) (h2 : b = !pol → s = vv undef) : QS X ops o c s := fun ρ σ a w hr K Q hK => by
  obtain ⟨v,hv,hd⟩ := hr.env t _ hb
  obtain rfl : v = .bool b := hd
  have hy : yielded ops a.tmps j = some b := by simp [yielded,hj,hv]
  by_cases e : b = pol
  · rw [if_pos (by simp [Region.wanted,hg,hy,e])]
    obtain ⟨v,h3,h4⟩ := h1 e ρ σ a w hr
    exact .inl (wp_of_value h3 (hK v w (Below.refl _ _) h4))
  · have e' : b = !pol := by cases b <;> cases pol <;> simp_all
    rw [if_neg (by simp [Region.wanted,hg,hy,e])]
    exact hK _ _ (Below.refl _ _) (by rw [h2 e'];rfl)
theorem QS.unguarded {ops : Array Oper} {o : Oper} {j : Nat} {pol : Bool} {t : Tmp} (hg : o.guard = some (j,pol)) (hj : (ops[j]?).bind (·.dst) = some t) (hb : c.env.lookup t = some (vv undef)) : QS X ops o c (vv undef) := fun ρ σ a w hr K Q hK => by
  obtain ⟨v,hv,hd⟩ := hr.env t _ hb
  obtain rfl : v = undef := hd
  have hy : yielded ops a.tmps j = none := by simp [yielded,hj,hv,undef]
  rw [if_neg (by simp [Region.wanted,hg,hy])]
  exact hK _ _ (Below.refl _ _) rfl
def CallQ (X : Ctx) (c : Cfg) (f : FuncId) (args : List SV) (N : SV → Prop) : Prop := ∃ s,(∀ ρ σ a w,Rel X c ρ σ a w → ∀ vals : List Value,All2 (DV σ) args vals →
  Calls X.P f vals.toArray w (fun e w' => ∃ v,e = .returned v ∧ Below w.heap.size w w' ∧ DV σ s v)) ∧ N s
theorem QS.call {ops : Array Oper} {fo : Operand} {xs : List Operand} {ts : Array TypeId} {f : FuncId} {fst cap : List SP} {s : SV} (hf : c.ev fo = .one (.c (.clo f fst cap))) (hok : calleeOk X.P f = true)
    (h : ∀ ρ σ a w,Rel X c ρ σ a w → ∀ vals : List Value,All2 (DV σ) (fst.map SP.sv ++ xs.map c.ev ++ cap.map SP.sv) vals → Calls X.P f vals.toArray w (fun e w' => ∃ v,e = .returned v ∧ Below w.heap.size w w' ∧ DV σ s v)) :
    QS X ops ⟨d,.call { callee := .value fo,args := xs.toArray,argTypes := ts },ty,pos,af,none⟩ c s := fun ρ σ a w hr K Q hK => by
  rw [if_pos (by simp [Region.wanted])]
  left
  have e := hr.ev fo
  rw [hf] at e
  obtain ⟨us,vs,e,hu,hv⟩ := e
  have hrun : (execOp a.eval ⟨d,.call { callee := .value fo,args := xs.toArray,argTypes := ts },ty,pos,af,none⟩).run X.P w = .ok (.enter f (us ++ xs.map a.eval ++ vs).toArray) w := by
    simp [execOp,resolve,Deferred.ofValue,e,invoke,callFunc_run hok]
  unfold Oper.wp
  rw [hrun]
  refine (h ρ σ a w hr _ (All2.append (All2.append (all2_sp hu) (all2_ev hr xs)) (all2_sp hv))).mono ?_
  rintro e' w' ⟨v,rfl,hb,hs⟩
  exact hK v w' hb hs
section contracts
variable {P : Program} {f : FuncId} {args : List SV} {N : SV → Prop}
theorem CallQ.of {vs : List Value} {r : Value} {s : SV} (hP : X.P = P) (hc : ∀ w,Calls P f vs.toArray w (fun e w' => e = .returned r ∧ Below w.heap.size w w'))
    (hv : svals? args = some vs) (hs : ∀ σ,DV σ s r) (hN : N s) : CallQ X c f args N := ⟨s,fun ρ σ a w hr vals ha => by
  subst hP
  rw [svals?_spec hv ha]
  refine (hc w).mono ?_
  rintro e w' ⟨rfl,hb⟩
  exact ⟨r,rfl,hb,hs σ⟩,hN⟩
theorem CallQ.pv {vs : List Value} {r : Value} (hP : X.P = P) (hc : ∀ w,Calls P f vs.toArray w (fun e w' => e = .returned r ∧ Below w.heap.size w w'))
    (hv : svals? args = some vs) (hN : N (vv r)) : CallQ X c f args N := .of (s := vv r) hP hc hv (fun _ => rfl) hN
theorem CallQ.pt {vs l : List Value} (hP : X.P = P) (hc : ∀ w,Calls P f vs.toArray w (fun e w' => e = .returned (.tuple l.toArray) ∧ Below w.heap.size w w'))
    (hv : svals? args = some vs) (hN : N (.tup (tupS l))) : CallQ X c f args N := .of (s := .tup (tupS l)) hP hc hv (fun σ => ⟨l,rfl,tupS_spec σ l⟩) hN
end contracts
theorem Rel.adopt {ρ : List (List Nat)} {σ : List Value} {a : Act} {w : World} (h : Rel X c ρ σ a w) {l : List SC} {cs : List Value} {t : TypeId} {b : Nat} (hl : All2 (DC σ) l cs) (hw : w.heap[b]? = some (.cells cs.toArray t (0,0))) (hb : b ∉ ρ.flatten) (hf : X.wi.heap.size ≤ b) :
    Rel X { c with loc := c.loc ++ [.cells l t] } (ρ ++ [[b]]) (σ ++ [ptr b 0]) a w := by
  have hup : Up σ (σ ++ [ptr b 0]) := Up.append _ _
  have hblt : b < w.heap.size := (Array.getElem?_eq_some_iff.1 hw).1
  refine ⟨fun t' s he => ?_,by simp [h.len],by simp [h.lenS],fun i o' fp' v' ho hb' hv => ?_,?_,fun b' hm => ?_,fun b' hm => ?_,h.low,h.defers,h.size,fun u hu => by (rcases List.mem_append.1 hu with hu | hu;exact h.one u hu;simp at hu;subst hu;rfl),fun i u hu => hup _ _ (h.pin i u hu)⟩
  · obtain ⟨u,hv,hd⟩ := h.env t' s he
    exact ⟨u,hv,DV.mono hup _ _ hd⟩
  · rcases Nat.lt_or_ge i c.loc.length with hi | hi
    · rw [List.getElem?_append_left hi] at ho
      rw [List.getElem?_append_left (by rw [h.len];exact hi)] at hb'
      rw [List.getElem?_append_left (by rw [h.lenS];exact hi)] at hv
      exact DL.kept hup (Nat.le_refl _) (fun _ _ => rfl) (h.loc i o' fp' v' ho hb' hv)
    · rw [List.getElem?_append_right hi] at ho
      rw [List.getElem?_append_right (by rw [h.len];exact hi)] at hb'
      rw [List.getElem?_append_right (by rw [h.lenS];exact hi)] at hv
      have e0 : i - c.loc.length = 0 := by
        rcases Nat.eq_zero_or_pos (i - c.loc.length) with e | e
        · exact e
        · rw [List.getElem?_eq_none (by simp;omega)] at ho;simp at ho
      rw [e0] at ho
      rw [show i - ρ.length = 0 by rw [h.len];exact e0] at hb'
      rw [show i - σ.length = 0 by rw [h.lenS];exact e0] at hv
      simp at ho hb' hv
      subst ho;subst hb';subst hv
      exact ⟨b,cs,rfl,by simp,hw,hl.mono (DC.mono hup)⟩
  · rw [List.flatten_append,List.nodup_append]
    refine ⟨h.inj,by simp,?_⟩
    intro x hx y hy e
    simp at hy;subst hy;subst e
    exact hb hx
  · rw [List.flatten_append,List.mem_append] at hm
    rcases hm with hm | hm
    · exact h.lt b' hm
    · simp at hm;subst hm;exact hblt
  · rw [List.flatten_append,List.mem_append] at hm
    rcases hm with hm | hm
    · exact h.fresh b' hm
    · simp at hm;subst hm;exact .inl hf
theorem PO.fieldAddr {t : TypeId} {x : Operand} {f i off o : Nat} (hx : c.ev x = .one (.c (.loc i off))) (hf : fieldOff X.P t f = some o) : PO X ⟨d,.fieldAddr t x f,ty,pos,af,g⟩ c (.one (.c (.loc i (off + o)))) := fun ρ σ a w hr => by
  have hv := hr.ev x
  rw [hx] at hv
  obtain ⟨b,hb,e⟩ := hv
  unfold fieldOff at hf
  split at hf
  · rename_i fs hu
    cases hfs : fs[f]? with
    | none => simp [hfs] at hf
    | some y =>
      simp [hfs] at hf
      split at hf
      · rename_i n hz
        simp at hf
        exact ⟨.pointer (some ⟨b,off + o,none⟩),by simp [execOp,e,Instr.fieldAt,Instr.sureAddr,run_underlying hu,hfs,fieldPlace,sizeOf_run hz,add_add,hf],⟨b,hb,rfl⟩⟩
      · simp at hf
  · simp at hf
theorem PO.fieldAddrRi {t : TypeId} {x : Operand} {f i k o : Nat} (hx : c.ev x = .one (.c (.ri i k))) (hf : fieldOff X.P t f = some o) : PO X ⟨d,.fieldAddr t x f,ty,pos,af,g⟩ c (.one (.c (.ri i (k + o)))) := fun ρ σ a w hr => by
  have hv := hr.ev x
  rw [hx] at hv
  obtain ⟨ad,n',m',hs,e⟩ := hv
  unfold fieldOff at hf
  split at hf
  · rename_i fs hu
    cases hfs : fs[f]? with
    | none => simp [hfs] at hf
    | some y =>
      simp [hfs] at hf
      split at hf
      · rename_i n hz
        simp at hf
        exact ⟨.pointer (some (ad.add (k + o))),by simp [execOp,e,Instr.fieldAt,Instr.sureAddr,run_underlying hu,hfs,fieldPlace,sizeOf_run hz,hf,add_assoc'],⟨ad,n',m',hs,rfl⟩⟩
      · simp at hf
  · simp at hf
theorem PO.fieldAddrV {t : TypeId} {x : Operand} {f o : Nat} {ad : Addr} (hx : c.ev x = vv (.pointer (some ad))) (hf : fieldOff X.P t f = some o) : PO X ⟨d,.fieldAddr t x f,ty,pos,af,g⟩ c (vv (.pointer (some (ad.add o)))) := fun ρ σ a w hr => by
  have e := hr.ev x
  rw [hx] at e
  have e : a.eval x = .pointer (some ad) := e
  unfold fieldOff at hf
  split at hf
  · rename_i fs hu
    cases hfs : fs[f]? with
    | none => simp [hfs] at hf
    | some y =>
      simp [hfs] at hf
      split at hf
      · rename_i n hz
        simp at hf
        exact ⟨.pointer (some (ad.add o)),by simp [execOp,e,Instr.fieldAt,Instr.sureAddr,run_underlying hu,hfs,fieldPlace,sizeOf_run hz,hf],rfl⟩
      · simp at hf
  · simp at hf
theorem PO.nilCheck {x : Operand} {i off : Nat} (hx : c.ev x = .one (.c (.loc i off))) : PO X ⟨d,.nilCheck x,ty,pos,af,g⟩ c (.one (.c (.loc i off))) := fun ρ σ a w hr => by
  have e := hr.ev x
  rw [hx] at e
  obtain ⟨b,hb,e⟩ := e
  exact ⟨.pointer (some ⟨b,off,none⟩),by simp [execOp,e],⟨b,hb,rfl⟩⟩
theorem PO.extract {x : Operand} {i : Nat} {l : List S1} {s : S1} (hx : c.ev x = .tup l) (hi : l[i]? = some s) : PO X ⟨d,.extract x i,ty,pos,af,g⟩ c (.one s) := fun ρ σ a w hr => by
  have e := hr.ev x
  rw [hx] at e
  obtain ⟨vs,e,ha⟩ := e
  obtain ⟨v,hv,hd⟩ := ha.get hi
  exact ⟨v,by simp [execOp,e,Instr.extract,hv],hd⟩
theorem PO.unOp {op : UnOp} {t : TypeId} {x : Operand} {u : Value} {N : Value → Prop} (hx : (c.ev x).val? = some u) (h : unK op u N) : ∃ r,PO X ⟨d,.unOp op t x,ty,pos,af,g⟩ c (vv r) ∧ N r := by
  unfold unK at h
  split at h
  · rename_i b;exact ⟨_,fun ρ σ a w hr => ⟨_,by simp [execOp,SV.val?_spec hx (hr.ev x),Op.unary],rfl⟩,h⟩
  · rename_i k n;exact ⟨_,fun ρ σ a w hr => ⟨_,by simp [execOp,SV.val?_spec hx (hr.ev x),Op.unary,Op.intArith],rfl⟩,h⟩
  · exact h.elim
theorem PO.binOp {op : BinOp} {t t2 : TypeId} {x y : Operand} {u v : Value} {N : Value → Prop} (hx : (c.ev x).val? = some u) (hy : (c.ev y).val? = some v)
    (h : binK X.P t op u v N False) : ∃ r,PO X ⟨d,.binOp op t x y t2,ty,pos,af,g⟩ c (vv r) ∧ N r := by
  rcases binK_sound x y h with h | ⟨r,hrun,hn⟩
  · exact h.elim
  refine ⟨r,fun ρ σ a w hr => ?_,hn⟩
  have e1 := SV.val?_spec hx (hr.ev x)
  have e2 := SV.val?_spec hy (hr.ev y)
  refine ⟨r,?_,rfl⟩
  have := hrun w
  simp only [execOp,e1,e2,Sem.run_bind] at this ⊢
  rw [this]
  rfl
theorem PO.convInt {src dst : TypeId} {x : Operand} {k k' : IntKind} {n : Int} (hx : c.ev x = vv (.int k n)) (hs : X.P.underlying src = some (.int k)) (hd : X.P.underlying dst = some (.int k')) : PO X ⟨d,.convert src dst x,ty,pos,af,g⟩ c (vv (.int k' (k'.wrap n))) := fun ρ σ a w hr => by
  have e := hr.ev x
  rw [hx] at e
  have e : a.eval x = .int k n := e
  exact ⟨_,by simp [execOp,e,convert,run_underlying hs,run_underlying hd,Conv.intToInt],rfl⟩
theorem PO.pick {k x y : Operand} {b : Bool} (hk : c.ev k = .one (.c (.v (.bool b)))) : PO X ⟨d,.pick k x y,ty,pos,af,g⟩ c (if b = true then c.ev x else c.ev y) := fun ρ σ a w hr => by
  have e := hr.ev k
  rw [hk] at e
  have e : a.eval k = .bool b := e
  cases b with
  | true => exact ⟨a.eval x,by simp [execOp,e,asBool],by simpa using hr.ev x⟩
  | false => exact ⟨a.eval y,by simp [execOp,e,asBool],by simpa using hr.ev y⟩
theorem PO.len {t : TypeId} {x : Operand} {N : Value → Prop} (h : lenK X.P t (c.ev x) N) : ∃ r,PO X ⟨d,.call { callee := .builtin .len,args := #[x],argTypes := #[t] },ty,pos,af,g⟩ c (vv r) ∧ N r := by
  unfold lenK at h
  split at h
  · rename_i b hb
    refine ⟨_,fun ρ σ a w hr => ?_,h.2⟩
    have e := hr.ev x
    rw [hb] at e
    have e : a.eval x = .string b := e
    exact ⟨_,by simp [execOp,e,resolve,invoke,builtin,Builtin.len_,run_underlying h.1,goInt],rfl⟩
  · rename_i p n q hb
    obtain ⟨⟨el,hu⟩,h⟩ := h
    refine ⟨_,fun ρ σ a w hr => ?_,h⟩
    have e := hr.ev x
    rw [hb] at e
    have e : a.eval x = .slice p n q := e
    exact ⟨_,by simp [execOp,e,resolve,invoke,builtin,Builtin.len_,run_underlying hu,goInt],rfl⟩
  · rename_i i o n q hb
    obtain ⟨⟨el,hu⟩,h⟩ := h
    refine ⟨_,fun ρ σ a w hr => ?_,h⟩
    have e := hr.ev x
    rw [hb] at e
    obtain ⟨b,_,e⟩ := e
    exact ⟨_,by simp [execOp,e,resolve,invoke,builtin,Builtin.len_,run_underlying hu,goInt],rfl⟩
  · exact h.elim
theorem PO.build {t : TypeId} {parts : List (Nat × Operand)} {places : List (Nat × Nat)} {zs : List Value} {ps : List (Nat × S1)} {out : List SC} (hpl : fieldsOf X.P t = some places) (hz : zeroCells X.P t = some zs)
    (hp : partsS c parts = some ps) (ho : ∀ p ∈ ps,p.2.One) (hf : fillS places (zs.map .v) ps = some out) : PO X ⟨d,.build t parts.toArray,ty,pos,af,g⟩ c (.one (.agg out)) := fun ρ σ a w hr => by
  unfold fieldsOf at hpl
  split at hpl
  · rename_i fs hu
    have hm := mapM_places (P := X.P) w fs.toList places hpl
    unfold zeroCells at hz
    cases hi : X.P.info? t with
    | none => simp [hi] at hz
    | some i =>
      cases hzv : i.zero with
      | none => simp [hi,hzv] at hz
      | some zv =>
        simp [hi,hzv] at hz
        obtain ⟨cs',hfill,hout⟩ := fillS_spec hr (places[·]?) (fun _ _ h => h) hp ho hf (cs := zv.cells) (by rw [hz];exact all2_vals zs)
        refine ⟨.agg cs',?_,⟨cs'.toList,by simp,hout⟩⟩
        have hm2 : (fs.mapM fun (f : Field) => (do pure (f.offset,← Go.sizeOf f.type) : Sem (Nat × Nat))).run X.P w = .ok places.toArray w := by
          rw [Array.mapM_eq_mapM_toList]
          simp only [Sem.run_map]
          rw [hm]
          rfl
        simp only [execOp,Instr.build,zeroValue,typeInfo,Sem.run_bind,run_program,hi,Sem.run_pure,hzv,Result.andThen,run_underlying hu,hm2]
        simp only [List.map_toArray,List.getElem?_toArray]
        rw [hfill]
        rfl
  · simp at hpl
theorem PO.sliceData {x : Operand} {t i e sz n : Nat} {xs : List Value} (hx : c.ev x = .one (.c (.row i))) (hi : c.loc[i]? = some (.row e sz n xs)) (h0 : 0 < n) :
    PO X ⟨d,.call { callee := .builtin .unsafeSliceData,args := #[x],argTypes := #[t] },ty,pos,af,g⟩ c (.one (.c (.ri i 0))) := fun ρ σ a w hr => by
  have ex := hr.ev x
  rw [hx] at ex
  have ex : σ[i]? = some (a.eval x) := ex
  obtain ⟨fp,hfp⟩ := hr.locAt hi
  have hd0 := (hr.loc i _ fp _ hi hfp ex).1
  rcases hd0.2 with ⟨_,h2⟩ | ⟨gg,cap,cur,e1,_,_,hnc,_⟩
  · omega
  · refine ⟨.pointer (some ⟨gg,0,none⟩),?_,⟨⟨gg,0,none⟩,n,cap,by rw [ex,e1],rfl⟩⟩
    have : ∃ k,cap = k + 1 := ⟨cap - 1,by omega⟩
    obtain ⟨k,rfl⟩ := this
    have hrun : (Builtin.unsafeSliceData_ #[t] ty #[.slice (some ⟨gg,0,none⟩) n (k + 1)]).run X.P w = .ok (.pointer (some ⟨gg,0,none⟩)) w := rfl
    simp only [execOp,resolve,invoke,builtin,Sem.run_bind,Sem.run_pure,Result.andThen_ok,List.map_toArray,List.map_cons,List.map_nil,e1,hrun]
end
section defs
variable (X : Ctx) (c : Cfg)
def qExt (s : SV) (i : Nat) (N : SV → Prop) : Prop := match s with | .tup l => (match l[i]? with | some s => N (.one s) | none => False) | _ => False
def qField (s : SV) (o : Option Nat) (N : SV → Prop) : Prop := match s,o with
  | .one (.c (.loc i off)),some o => N (.one (.c (.loc i (off + o))))
  | .one (.c (.ri i k)),some o => N (.one (.c (.ri i (k + o))))
  | .one (.c (.v (.pointer (some ad)))),some o => N (vv (.pointer (some (ad.add o))))
  | _,_ => False
def qNil (s : SV) (N : SV → Prop) : Prop := match s with
  | .one (.c (.loc i off)) => N (.one (.c (.loc i off)))
  | .one (.c (.ri i k)) => N (.one (.c (.ri i k)))
  | .one (.c (.v (.pointer (some a)))) => N (vv (.pointer (some a)))
  | _ => False
def qBin (P : Program) (t : TypeId) (op : BinOp) (x y : Option Value) (N : Value → Prop) : Prop := match x,y with | some u,some v => binK P t op u v N False | _,_ => False
def qUn (op : UnOp) (x : Option Value) (N : Value → Prop) : Prop := match x with | some u => unK op u N | none => False
def qConv (s : SV) (a b : Option TypeDesc) (N : Value → Prop) : Prop := match s,a,b with
  | .one (.c (.v (.int k n))),some (.int k1),some (.int k') => k = k1 ∧ N (.int k' (k'.wrap n))
  | _,_,_ => False
def qPick (s x y : SV) (N : SV → Prop) : Prop := match s with | .one (.c (.v (.bool b))) => N (if b = true then x else y) | _ => False
def qCall (fo : SV) (args : List SV) (N : SV → Prop) : Prop := match fo with
  | .one (.c (.clo f fst cap)) => calleeOk X.P f = true ∧ CallQ X c f (fst.map SP.sv ++ args ++ cap.map SP.sv) N
  | _ => False
def qSdR (o : Option LO) (i : Nat) (N : SV → Prop) : Prop := match o with | some (.row _ _ n _) => 0 < n ∧ N (.one (.c (.ri i 0))) | _ => False
def qSd (s : SV) (N : SV → Prop) : Prop := match s with | .one (.c (.row i)) => qSdR (c.loc[i]?) i N | _ => False
def qBuild1 (o : Option (List SC)) (N : SV → Prop) : Prop := match o with | some out => N (.one (.agg out)) | none => False
def qBuild (pl : Option (List (Nat × Nat))) (z : Option (List Value)) (ps : Option (List (Nat × S1))) (N : SV → Prop) : Prop := match pl,z,ps with
  | some places,some zs,some ps => partsOne ps ∧ qBuild1 (fillS places (zs.map .v) ps) N
  | _,_,_ => False
end defs
def vcQ (X : Ctx) (o : Oper) (c : Cfg) (N : SV → Prop) : Prop :=
  match o.op with
  | .move x => N (c.ev x)
  | .assign x => N (c.ev x)
  | .load t x => vcLoad X t (c.ev x) c N (vcLoad2 X c t (c.ev x) N False)
  | .slice t x lo hi none => slcK c (c.ev x) (isStrT X.P t) (elemSz X.P t) (optI c lo) (optI c hi) N
  | .index t x i => idxK (c.ev x) (c.ev i) (isStrT X.P t) (fun r => N (vv r))
  | .indexAddr t x i => ixK c (c.ev x) (c.ev i) (elemSz X.P t) (arrInf X.P t) N
  | .extract x i => qExt (c.ev x) i N
  | .fieldAddr t x f => qField (c.ev x) (fieldOff X.P t f) N
  | .nilCheck x => qNil (c.ev x) N
  | .binOp op t x y _ => qBin X.P t op (c.ev x).val? (c.ev y).val? (fun r => N (vv r))
  | .unOp op _ x => qUn op (c.ev x).val? (fun r => N (vv r))
  | .convert s t x => qConv (c.ev x) (X.P.underlying s) (X.P.underlying t) (fun r => N (vv r))
  | .pick k x y => qPick (c.ev k) (c.ev x) (c.ev y) N
  | .build t parts => qBuild (fieldsOf X.P t) (zeroCells X.P t) (partsS c parts.toList) N
  | .field t x f => fldK (c.ev x) (fldInf X.P t f) N
  | .lookup t m k ok => lkK c (c.ev m) (c.ev k) (mapInf X.P t) ok N
  | .call { callee := .builtin .len,args := ⟨[x]⟩,argTypes := ⟨[t]⟩ } => lenB c (c.ev x) (X.P.underlying t) (fun r => N (vv r))
  | .call { callee := .builtin .min,args := ⟨[x,y]⟩,argTypes := ts } => minK (c.ev x) (c.ev y) (fun r => N (vv r))
  | .call { callee := .builtin .unsafeSliceData,args := ⟨[x]⟩,argTypes := ⟨[t]⟩ } => qSd c (c.ev x) N
  | .call { callee := .value fo,args := xs,argTypes := ts } => o.guard.isNone = true ∧ qCall X c (c.ev fo) (xs.toList.map c.ev) N
  | _ => False
section
variable {X : Ctx} {c : Cfg}
theorem vcQ_sound {ops : Array Oper} {o : Oper} {N : SV → Prop} (h : vcQ X o c N) : (∃ s,PO X o c s ∧ N s) ∨ (o.guard = none ∧ ∃ s,QS X ops o c s ∧ N s) := by
  obtain ⟨d,op,ty,pos,af,g⟩ := o
  unfold vcQ at h
  simp only at h
  split at h
  · exact .inl ⟨_,.move,h⟩
  · exact .inl ⟨_,.assign,h⟩
  · left
    unfold vcLoad at h
    split at h
    · rename_i hx
      unfold loadA at h
      split at h
      · rename_i hl
        split at h
        · rename_i ha
          unfold load1S at h
          split at h
          · rename_i hs;exact ⟨_,.load1 hx ha hl hs,h⟩
          · exact h.elim
        · rename_i ha
          split at h
          · rename_i hz;exact ⟨_,.loadN hx ha hz hl h.1,h.2⟩
          · exact h.elim
        · exact h.elim
      · exact h.elim
    · unfold vcLoad2 at h
      split at h
      · rename_i hx
        unfold ldRi at h
        split at h
        · rename_i hl ha
          obtain ⟨v,h1,h2⟩ := h
          exact ⟨_,.loadRi hx hl ha h1,h2⟩
        · rename_i hl ha hz
          obtain ⟨vs,rfl,h1,h2⟩ := h
          exact ⟨_,.loadRiN hx hl ha hz h1,h2⟩
        · exact h.elim
      · rename_i hx
        obtain ⟨ho,h⟩ := h
        split at h
        · rename_i ha
          obtain ⟨v,h1,h2⟩ := h
          exact ⟨_,.loadV hx ha h1 ho,h2⟩
        · rename_i ha hz
          obtain ⟨vs,rfl,h1,h2⟩ := h
          exact ⟨_,.loadVN hx ha hz h1 ho,h2⟩
        · exact h.elim
      · exact h.elim
  · left
    unfold slcK at h
    split at h
    · rename_i h1 h2 h3 h4;exact ⟨_,.sliceS h1 (isStrT_spec h2) h3 h4 h.1 h.2.1 h.2.2.1,h.2.2.2⟩
    · rename_i h1 h2 h3 h4;exact ⟨_,.sliceSl h1 h2 h3 h4 h.1 h.2.1 h.2.2.1,h.2.2.2⟩
    · rename_i h1 h2 h3 h4
      unfold slcRow at h
      split at h
      · rename_i h5;exact ⟨_,.sliceRow h1 h5 h2 h3 h4 h.1 h.2.1 h.2.2.1,h.2.2.2⟩
      · exact h.elim
    · exact h.elim
  · left
    unfold idxK at h
    split at h
    · rename_i h1 h2 h3;exact ⟨_,.indexS h1 h2 (isStrT_spec h3) h.1 h.2.1,h.2.2⟩
    · exact h.elim
  · left
    unfold ixK at h
    split at h
    · rename_i hx hi
      unfold ixRow at h
      split at h
      · rename_i h1 h2
        obtain ⟨rfl,h3,h4,h5⟩ := h
        exact ⟨_,.indexRow hx h1 hi h2 h3 h4,h5⟩
      · exact h.elim
    · rename_i hx hi
      split at h
      · rename_i h2;exact ⟨_,.indexV hx hi h2 h.1 h.2.1,h.2.2⟩
      · exact h.elim
    · rename_i hx hi
      split at h
      · rename_i h2;exact ⟨_,.indexSl hx hi h2 h.1 h.2.1,h.2.2⟩
      · exact h.elim
    · rename_i hx hi
      split at h
      · rename_i h2;exact ⟨_,.indexArr hx hi h2 h.1 h.2.1,h.2.2⟩
      · exact h.elim
    · exact h.elim
  · left
    unfold qExt at h
    split at h
    · rename_i hx
      split at h
      · rename_i hi;exact ⟨_,.extract hx hi,h⟩
      · exact h.elim
    · exact h.elim
  · left
    unfold qField at h
    split at h
    · rename_i hx hf;exact ⟨_,.fieldAddr hx hf,h⟩
    · rename_i hx hf;exact ⟨_,.fieldAddrRi hx hf,h⟩
    · rename_i hx hf;exact ⟨_,.fieldAddrV hx hf,h⟩
    · exact h.elim
  · left
    unfold qNil at h
    split at h
    · rename_i hx;exact ⟨_,.nilCheck hx,h⟩
    · rename_i hx;exact ⟨_,.nilCheckRi hx,h⟩
    · rename_i hx;exact ⟨_,.nilCheckV hx,h⟩
    · exact h.elim
  · left
    unfold qBin at h
    split at h
    · rename_i hx hy
      obtain ⟨r,h1,h2⟩ := PO.binOp hx hy h
      exact ⟨_,h1,h2⟩
    · exact h.elim
  · left
    unfold qUn at h
    split at h
    · rename_i hx
      obtain ⟨r,h1,h2⟩ := PO.unOp hx h
      exact ⟨_,h1,h2⟩
    · exact h.elim
  · left
    unfold qConv at h
    split at h
    · rename_i hx hs ht
      obtain ⟨rfl,h⟩ := h
      exact ⟨_,.convInt hx hs ht,h⟩
    · exact h.elim
  · left
    unfold qPick at h
    split at h
    · rename_i hk;exact ⟨_,.pick hk,h⟩
    · exact h.elim
  · left
    unfold qBuild at h
    split at h
    · rename_i hpl hz hp
      obtain ⟨ho,h⟩ := h
      unfold qBuild1 at h
      split at h
      · rename_i hf
        have := PO.build (X := X) (c := c) (d := d) (ty := ty) (pos := pos) (af := af) (g := g) hpl hz hp (partsOne_iff ho) hf
        exact ⟨_,by simpa using this,h⟩
      · exact h.elim
    · exact h.elim
  · left
    unfold fldK at h
    split at h
    · rename_i hs;exact ⟨_,.field hs,h⟩
    · exact h.elim
  · left
    unfold lkK at h
    split at h
    · rename_i hm
      unfold lkMap at h
      split at h
      · rename_i hi hk hmi
        obtain ⟨k',e',i',q1,q2,q3,q4⟩ := mapInf_spec hmi
        obtain ⟨h1,h2,h3⟩ := h
        obtain ⟨r,hl,hN⟩ := lkS_spec h1 h2 h3
        unfold lkEnd at hN
        split at hN
        · exact ⟨_,.lookup2 hm hi hk q1 q2 h1 h2 hl q3 q4 (fun σ => s1Of_spec σ _) rfl,hN⟩
        · exact ⟨_,.lookup1 hm hi hk q1 q2 h1 h2 hl q3 q4 (fun σ => s1Of_spec σ _) rfl,hN⟩
      · exact h.elim
    · exact h.elim
  · left
    rename_i x t
    unfold lenB at h
    split at h
    · rename_i hx
      obtain ⟨⟨e,he⟩,h⟩ := h
      unfold lenRowK at h
      split at h
      · rename_i hl;exact ⟨_,.lenRow (e' := e) hx hl he,h⟩
      · exact h.elim
    obtain ⟨r,h1,h2⟩ := PO.len (X := X) (c := c) (t := t) (x := x) (d := d) (ty := ty) (pos := pos) (af := af) (g := g) (N := fun r => N (vv r)) (by
      unfold lenA at h
      unfold lenK
      split at h
      · rename_i h1 h2;rw [h1];exact ⟨h2,h⟩
      · rename_i h1 h2;rw [h1];exact ⟨⟨_,h2⟩,h⟩
      · rename_i h1 h2;rw [h1];exact ⟨⟨_,h2⟩,h⟩
      · exact h.elim)
    exact ⟨_,h1,h2⟩
  · left
    unfold minK at h
    split at h
    · rename_i h1 h2;exact ⟨_,.min2 h1 h2,h⟩
    · exact h.elim
  · left
    rename_i x t
    unfold qSd at h
    split at h
    · rename_i hx
      unfold qSdR at h
      split at h
      · rename_i hi;exact ⟨_,.sliceData hx hi h.1,h.2⟩
      · exact h.elim
    · exact h.elim
  · rename_i fo xs ts
    obtain ⟨hg,h⟩ := h
    have hg : g = none := by cases g <;> simp_all
    subst hg
    unfold qCall at h
    split at h
    · rename_i hf
      obtain ⟨hok,s,hc,hN⟩ := h
      right
      refine ⟨rfl,s,?_,hN⟩
      have := QS.call (X := X) (c := c) (ops := ops) (d := d) (ty := ty) (pos := pos) (af := af) (ts := ts) hf hok hc
      simpa using this
    · exact h.elim
  · exact h.elim
def vqG (X : Ctx) (ops : Array Oper) (o : Oper) (pol : Bool) (s : Option SV) (c : Cfg) (N : SV → Prop) : Prop := match s with
  | some (.one (.c (.v (.bool b)))) => gif b pol (vcQ X { o with guard := none } c N) (N (vv undef))
  | some (.one (.c (.v (.tuple vs)))) => vs = #[] ∧ N (vv undef)
  | _ => False
def vqT (X : Ctx) (ops : Array Oper) (o : Oper) (pol : Bool) (t : Option Tmp) (c : Cfg) (N : SV → Prop) : Prop := match t with
  | some t => vqG X ops o pol (c.env.lookup t) c N
  | none => False
def vqO (X : Ctx) (ops : Array Oper) (o : Oper) (gd : Option (Nat × Bool)) (c : Cfg) (N : SV → Prop) : Prop := match gd with
  | none => vcQ X o c N
  | some (j,pol) => vqT X ops o pol ((ops[j]?).bind (·.dst)) c N
theorem PO.noGuard {o : Oper} {s : SV} (h : PO X { o with guard := none } c s) : PO X o c s := fun ρ σ a w hr => by
  obtain ⟨d,op,ty,pos,af,g⟩ := o
  exact h ρ σ a w hr
theorem QS.guardedC {ops : Array Oper} {o : Oper} {s : SV} {j : Nat} {pol b : Bool} {t : Tmp} (hg : o.guard = some (j,pol)) (hj : (ops[j]?).bind (·.dst) = some t) (hb : c.env.lookup t = some (.one (.c (.v (.bool b))))) (e : b = pol)
    (h : QS X ops { o with guard := none } c s) : QS X ops o c s := fun ρ σ a w hr K Q hK => by
  obtain ⟨v,hv,hd⟩ := hr.env t _ hb
  obtain rfl : v = .bool b := hd
  have hy : yielded ops a.tmps j = some b := by simp [yielded,hj,hv]
  rw [if_pos (by simp [Region.wanted,hg,hy,e])]
  have h1 := h ρ σ a w hr K Q hK
  rw [if_pos (by simp [Region.wanted])] at h1
  obtain ⟨d,op,ty,pos,af,g⟩ := o
  exact h1
theorem vqO_sound {ops : Array Oper} {o : Oper} {N : SV → Prop} (h : vqO X ops o o.guard c N) : ∃ s,QS X ops o c s ∧ N s := by
  unfold vqO at h
  split at h
  · rename_i hg
    rcases vcQ_sound (ops := ops) h with ⟨s,h1,h2⟩ | ⟨_,s,h1,h2⟩
    · exact ⟨s,.of_po hg h1,h2⟩
    · exact ⟨s,h1,h2⟩
  · rename_i j pol hg
    unfold vqT at h
    split at h
    · rename_i t ht
      unfold vqG at h
      split at h
      · rename_i b hb
        by_cases e : b = pol
        · rcases vcQ_sound (ops := ops) (h.1 e) with ⟨s,h1,h2⟩ | ⟨_,s,h1,h2⟩
          · exact ⟨s,.guarded hg ht hb (fun _ => h1.noGuard) (fun e' => by subst e;cases b <;> simp at e'),h2⟩
          · exact ⟨s,.guardedC hg ht hb e h1,h2⟩
        · have e' : b = !pol := by cases b <;> cases pol <;> simp_all
          exact ⟨vv undef,.guarded hg ht hb (fun e2 => absurd e2 e) (fun _ => rfl),h.2 e'⟩
      · rename_i vs hb
        obtain ⟨rfl,h⟩ := h
        exact ⟨vv undef,.unguarded hg ht hb,h⟩
      · exact h.elim
    · exact h.elim
def nxq (X : Ctx) (d : Option Tmp) (c : Cfg) (N : Cfg → Prop) (s : SV) : Prop := dOk d X.nt = true ∧ N (c.put d s)
def vq1 (X : Ctx) (ops : Array Oper) (o : Option Oper) (c : Cfg) (N : Cfg → Prop) : Prop := match o with
  | some o => vqO X ops o o.guard (c.only (o.looksAt ops)) (nxq X o.dst c N)
  | none => False
def vq (X : Ctx) (ops : Array Oper) : List Nat → Cfg → (Cfg → Prop) → Prop
  | [],c,N => N c
  | i :: is,c,N => vq1 X ops (ops[i]?) c (fun c' => vq X ops is c' N)
inductive QF (X : Ctx) (ops : Array Oper) : List Nat → Cfg → List SV → Cfg → Prop
  | nil (e : Cfg) : QF X ops [] e [] e
  | cons (i : Nat) (is : List Nat) (o : Oper) (e : Cfg) (s : SV) (ss : List SV) (e' : Cfg) : ops[i]? = some o → dOk o.dst X.nt = true → QS X ops o (e.only (o.looksAt ops)) s → QF X ops is (e.put o.dst s) ss e' → QF X ops (i :: is) e (s :: ss) e'
theorem vq_QF {ops : Array Oper} {N : Cfg → Prop} : ∀ {is : List Nat} {c : Cfg},vq X ops is c N → ∃ ss c',QF X ops is c ss c' ∧ N c'
  | [],c,h => ⟨[],c,.nil _,h⟩
  | i :: is,c,h => by
    simp only [vq] at h
    unfold vq1 at h
    split at h
    · rename_i o ho
      obtain ⟨s,h1,h2,h3⟩ := vqO_sound h
      obtain ⟨ss,c',h4,h5⟩ := vq_QF h3
      exact ⟨s :: ss,c',.cons _ _ _ _ _ _ _ ho h2 h1 h4,h5⟩
    · exact h.elim
theorem put_loc (c : Cfg) (d : Option Tmp) (s : SV) : (c.put d s).loc = c.loc := by cases d <;> rfl
theorem put_lookup {c : Cfg} {d : Option Tmp} {s : SV} {t : Tmp} {u : SV} (h : (c.put d s).env.lookup t = some u) : (d = some t ∧ u = s) ∨ (d ≠ some t ∧ c.env.lookup t = some u) := by
  cases d with
  | none => exact .inr ⟨by simp,h⟩
  | some x =>
    simp only [Cfg.put,List.lookup_cons] at h
    by_cases e : t = x
    · subst e;simp at h;exact .inl ⟨rfl,h.symm⟩
    · have : (t == x) = false := by simpa using e
      rw [this] at h
      exact .inr ⟨fun e2 => e (by cases e2;rfl),h⟩
theorem QF.loc {ops : Array Oper} {is : List Nat} {c c' : Cfg} {ss : List SV} (h : QF X ops is c ss c') : c'.loc = c.loc := by
  induction h with
  | nil => rfl
  | cons _ _ _ _ _ _ _ _ _ _ _ ih => rw [ih,put_loc]
theorem QF.last {ops : Array Oper} {is : List Nat} {c c' : Cfg} {ss : List SV} (h : QF X ops is c ss c') : ∀ {t : Tmp} {u : SV},c'.env.lookup t = some u →
    (∃ (k i : Nat),is[k]? = some i ∧ ss[k]? = some u ∧ dstOf ops i = some t) ∨ ((∀ i ∈ is,dstOf ops i ≠ some t) ∧ c.env.lookup t = some u) := by
  induction h with
  | nil => intro t u hu;exact .inr ⟨by simp,hu⟩
  | cons i is o c s ss c' ho hd hq hf ih =>
    intro t u hu
    have hdo : dstOf ops i = o.dst := by simp [dstOf,ho]
    rcases ih hu with ⟨k,j,h1,h2,h3⟩ | ⟨h1,h2⟩
    · exact .inl ⟨k + 1,j,by simpa using h1,by simpa using h2,h3⟩
    · rcases put_lookup h2 with ⟨e,rfl⟩ | ⟨e,h3⟩
      · exact .inl ⟨0,i,rfl,rfl,by rw [hdo,e]⟩
      · refine .inr ⟨fun j hj => ?_,h3⟩
        rcases List.mem_cons.1 hj with rfl | hj
        · rw [hdo];exact e
        · exact h1 j hj
theorem QF.at {ops : Array Oper} {is : List Nat} {c c' : Cfg} {ss : List SV} (h : QF X ops is c ss c') : ∀ {k i : Nat},is[k]? = some i →
    ∃ (o : Oper) (s : SV) (ck : Cfg),ops[i]? = some o ∧ dOk o.dst X.nt = true ∧ ss[k]? = some s ∧ QS X ops o (ck.only (o.looksAt ops)) s ∧ ck.loc = c.loc ∧
      ∀ {t : Tmp} {u : SV},ck.env.lookup t = some u → (∃ (k' j : Nat),k' < k ∧ is[k']? = some j ∧ ss[k']? = some u ∧ dstOf ops j = some t) ∨ ((∀ (k' j : Nat),k' < k → is[k']? = some j → dstOf ops j ≠ some t) ∧ c.env.lookup t = some u) := by
  induction h with
  | nil => intro k i hk;simp at hk
  | cons i is o c s ss c' ho hd hq hf ih =>
    intro k i' hk
    have hdo : dstOf ops i = o.dst := by simp [dstOf,ho]
    cases k with
    | zero =>
      simp at hk;subst hk
      exact ⟨o,s,c,ho,hd,rfl,hq,rfl,fun {t u} hu => .inr ⟨fun k' j hk' _ => absurd hk' (Nat.not_lt_zero _),hu⟩⟩
    | succ k =>
      obtain ⟨o',s',ck,h1,h2,h3,h4,h5,h6⟩ := ih (by simpa using hk)
      refine ⟨o',s',ck,h1,h2,by simpa using h3,h4,by rw [h5,put_loc],fun {t u} hu => ?_⟩
      rcases h6 hu with ⟨k',j,g1,g2,g3,g4⟩ | ⟨g1,g2⟩
      · exact .inl ⟨k' + 1,j,by omega,by simpa using g2,by simpa using g3,g4⟩
      · rcases put_lookup g2 with ⟨e,rfl⟩ | ⟨e,g3⟩
        · exact .inl ⟨0,i,by omega,rfl,rfl,by rw [hdo,e]⟩
        · refine .inr ⟨fun k' j hk' hj => ?_,g3⟩
          cases k' with
          | zero => simp at hj;subst hj;rw [hdo];exact e
          | succ k' => exact g1 k' j (by omega) (by simpa using hj)
end
section
variable {X : Ctx} {c : Cfg} {d : Option Tmp} {ty : TypeId} {pos : String} {af : Array Edge} {g : Option (Nat × Bool)}
def alB (t : TypeId) (z : Option (List Value)) (N : List SC → TypeId → SV → Prop) (n : Nat) : Prop := match z with
  | some zs => N (zs.map .v) t (.one (.c (.loc n 0)))
  | none => False
def bxB (t : TypeId) (s : SV) (N : List SC → TypeId → SV → Prop) (n : Nat) : Prop := match s with
  | .one s => s.One ∧ N s.cells t (.one (.c (.loc n 0)))
  | _ => False
def bs2B (k e : Nat) (o : Option (List SC)) (N : List SC → TypeId → SV → Prop) (n : Nat) : Prop := match o with | some out => N out e (.one (.c (.sl n 0 k k))) | none => False
def bs1B (k e sz : Nat) (ps : List (Nat × S1)) (z : Option (List Value)) (N : List SC → TypeId → SV → Prop) (n : Nat) : Prop := match z with
  | some zs => zs.length = sz ∧ k * sz ≤ 16777216 ∧ partsOne ps ∧ bs2B k e (fillS (placesS k sz) (zerosS zs k sz) ps) N n
  | none => False
def bsB (X : Ctx) (k : Nat) (es : Option (TypeId × Nat)) (ps : Option (List (Nat × S1))) (N : List SC → TypeId → SV → Prop) (n : Nat) : Prop := match es,ps with
  | some (e,sz),some ps => bs1B k e sz ps (zeroCells X.P e) N n
  | _,_ => False
def vcA (X : Ctx) (o : Oper) (c : Cfg) (N : List SC → TypeId → SV → Prop) : Prop :=
  match o.op with
  | .alloc t => alB t (zeroCells X.P t) N c.loc.length
  | .box t x => bxB t (c.ev x) N c.loc.length
  | .buildSlice t k parts => bsB X k (elemSz X.P t) (partsS c parts.toList) N c.loc.length
  | _ => False
theorem vcA_sound {o : Oper} {N : List SC → TypeId → SV → Prop} (h : vcA X o c N) : ∃ l t s,QA X o c l t s ∧ N l t s := by
  obtain ⟨d,op,ty,pos,af,g⟩ := o
  unfold vcA at h
  simp only at h
  split at h
  · rename_i t
    unfold alB at h
    split at h
    · rename_i zs hz
      refine ⟨_,_,_,fun ρ σ a w hr => ?_,h⟩
      unfold zeroCells at hz
      cases hi : X.P.info? t with
      | none => simp [hi] at hz
      | some i =>
        cases hzv : i.zero with
        | none => simp [hi,hzv] at hz
        | some zv =>
          simp [hi,hzv] at hz
          refine ⟨ptr w.heap.size 0,zs,?_,all2_vals zs,⟨w.heap.size,by rw [← hr.lenS];simp,rfl⟩⟩
          simp only [execOp,Instr.alloc,zeroValue,typeInfo,newVar,newRow,newObj,Sem.run_bind,run_program,hi,Sem.run_pure,hzv,Result.andThen]
          subst hz
          simp [Sem.run]
    · exact h.elim
  · rename_i t x
    unfold bxB at h
    split at h
    · rename_i s hx
      refine ⟨_,_,_,fun ρ σ a w hr => ?_,h.2⟩
      have hv := hr.ev x
      rw [hx] at hv
      obtain ⟨ha,_⟩ := h.1.cells hr.one hv
      exact ⟨ptr w.heap.size 0,_,by simp [execOp,Instr.box,newVar,newRow],ha,⟨w.heap.size,by rw [← hr.lenS];simp,rfl⟩⟩
    · exact h.elim
  · rename_i t k parts
    unfold bsB at h
    split at h
    · rename_i e sz ps he hp
      unfold bs1B at h
      split at h
      · rename_i zs hz
        obtain ⟨hzl,hbig,ho,h⟩ := h
        unfold bs2B at h
        split at h
        · rename_i out hf
          refine ⟨_,_,_,fun ρ σ a w hr => ?_,h⟩
          unfold elemSz at he
          split at he
          · rename_i e' hu
            cases hze : szOf X.P e' with
            | none => simp [hze] at he
            | some q =>
              simp [hze] at he
              obtain ⟨rfl,rfl⟩ := he
              unfold zeroCells at hz
              cases hi : X.P.info? e' with
              | none => simp [hi] at hz
              | some i =>
                cases hzv : i.zero with
                | none => simp [hi,hzv] at hz
                | some zv =>
                  simp [hi,hzv] at hz
                  have hzsz : zv.cells.size = q := by rw [← hzl,← hz];simp
                  have hcs : All2 (DC σ) (zerosS zs k q) (((Array.range (k * q)).map (zv.cells[· % zv.cells.size]!)).toList) := by
                    have : ((Array.range (k * q)).map (zv.cells[· % zv.cells.size]!)).toList = (List.range (k * q)).map fun i => zs.toArray[i % q]! := by
                      simp only [Array.toList_map,Array.toList_range]
                      rw [hzsz,← hz]
                    rw [this]
                    have e2 : zerosS zs k q = ((List.range (k * q)).map fun i => zs.toArray[i % q]!).map SC.v := by simp [zerosS]
                    rw [e2]
                    exact all2_vals _
                  obtain ⟨cs',hfill,hout⟩ := fillS_spec hr (places := placesS k q) (fun i => some (i * q,q)) (fun i p hp => by
                    simp [placesS,List.getElem?_map] at hp
                    obtain ⟨j,hj,rfl⟩ := hp
                    rw [List.getElem?_range (by
                      rcases Nat.lt_or_ge i k with h' | h'
                      · exact h'
                      · rw [List.getElem?_eq_none (by simpa using h')] at hj;simp at hj)] at hj
                    cases hj;rfl) hp (partsOne_iff ho) hf hcs
                  have hfill : Instr.fill (fun i => some (i * q,q)) ((Array.range (k * q)).map (zv.cells[· % zv.cells.size]!)) (parts.toList.map fun p => (p.1,a.eval p.2)) = some cs' := hfill
                  refine ⟨.slice (some ⟨w.heap.size,0,none⟩) k k,cs'.toList,?_,hout,⟨w.heap.size,by rw [← hr.lenS];simp,rfl⟩⟩
                  have hpt : (Array.map (fun x => (x.fst,a.eval x.snd)) parts).toList = parts.toList.map fun p => (p.1,a.eval p.2) := by simp
                  simp only [execOp,Instr.buildSlice,Sem.run_bind,run_underlying hu,Result.andThen,sizeOf_run hze]
                  rw [if_neg (by omega)]
                  simp only [zeroValue,typeInfo,Sem.run_bind,run_program,hi,Sem.run_pure,hzv,Result.andThen,hpt]
                  by_cases h0 : k * q = 0
                  · rw [if_pos h0]
                    have e0 : (Array.map (fun x => (#[] : Array Value)[x % (#[] : Array Value).size]!) (Array.range (k * q))) = ((Array.range (k * q)).map (zv.cells[· % zv.cells.size]!)) := by rw [h0];simp
                    simp only [Sem.run_bind,Sem.run_pure,Result.andThen,e0,hfill,newRow,run_newObj]
                    simp
                  · rw [if_neg h0]
                    simp only [Sem.run_bind,Sem.run_pure,Result.andThen,run_program,hi,hzv,hfill,newRow,run_newObj]
                    simp
          · simp at he
        · exact h.elim
      · exact h.elim
    · exact h.elim
  · exact h.elim
def vcV (X : Ctx) (o : Oper) (c : Cfg) (N : SV → Prop) : Prop :=
  match o.op with
  | .move x => N (c.ev x)
  | .assign x => N (c.ev x)
  | .extract x i => qExt (c.ev x) i N
  | .fieldAddr t x f => qField (c.ev x) (fieldOff X.P t f) N
  | .nilCheck x => qNil (c.ev x) N
  | _ => False
theorem field_run {P : Program} {t : TypeId} {f o : Nat} (hf : fieldOff P t f = some o) (ad : Addr) (w : World) : (Instr.fieldAt t (.pointer (some ad)) f).run P w = .ok (.pointer (some (ad.add o))) w := by
  unfold fieldOff at hf
  split at hf
  · rename_i fs hu
    cases hfs : fs[f]? with
    | none => simp [hfs] at hf
    | some y =>
      simp [hfs] at hf
      split at hf
      · rename_i n hz
        simp at hf
        simp [Instr.fieldAt,Instr.sureAddr,run_underlying hu,hfs,fieldPlace,sizeOf_run hz,hf]
      · simp at hf
  · simp at hf
theorem vcV_sound {o : Oper} {N : SV → Prop} (h : vcV X o c N) : ∃ s,QV X o c s ∧ N s := by
  obtain ⟨d,op,ty,pos,af,g⟩ := o
  unfold vcV at h
  simp only at h
  split at h
  · exact ⟨_,fun ρ σ a w hr => ⟨_,fun w' => rfl,hr.ev _⟩,h⟩
  · exact ⟨_,fun ρ σ a w hr => ⟨_,fun w' => rfl,hr.ev _⟩,h⟩
  · unfold qExt at h
    split at h
    · rename_i x i sv l hx
      split at h
      · rename_i s hi
        refine ⟨_,fun ρ σ a w hr => ?_,h⟩
        have e := hr.ev x
        rw [hx] at e
        obtain ⟨vs,e,ha⟩ := e
        obtain ⟨v,hv,hd⟩ := ha.get hi
        exact ⟨v,fun w' => by simp [execOp,e,Instr.extract,hv],hd⟩
      · exact h.elim
    · exact h.elim
  · rename_i t x f
    unfold qField at h
    split at h
    · rename_i hx hf
      refine ⟨_,fun ρ σ a w hr => ?_,h⟩
      have e := hr.ev x
      rw [hx] at e
      obtain ⟨b,hb,e⟩ := e
      refine ⟨.pointer (some ((⟨b,_,none⟩ : Addr).add _)),fun w' => ?_,⟨b,hb,by rw [add_add]⟩⟩
      simp only [execOp,e,Sem.run_bind,field_run hf,Result.andThen,Sem.run_pure]
    · rename_i hx hf
      refine ⟨_,fun ρ σ a w hr => ?_,h⟩
      have e := hr.ev x
      rw [hx] at e
      obtain ⟨ad,n,m,hs,e⟩ := e
      refine ⟨.pointer (some ((ad.add _).add _)),fun w' => ?_,⟨ad,n,m,hs,by rw [add_assoc']⟩⟩
      simp only [execOp,e,Sem.run_bind,field_run hf,Result.andThen,Sem.run_pure]
    · rename_i hx hf
      refine ⟨_,fun ρ σ a w hr => ?_,h⟩
      have e := hr.ev x
      rw [hx] at e
      have e : a.eval x = _ := e
      refine ⟨_,fun w' => ?_,rfl⟩
      simp only [execOp,e,Sem.run_bind,field_run hf,Result.andThen,Sem.run_pure]
    · exact h.elim
  · rename_i x
    unfold qNil at h
    split at h
    · rename_i hx
      refine ⟨_,fun ρ σ a w hr => ?_,h⟩
      have e := hr.ev x
      rw [hx] at e
      obtain ⟨b,hb,e⟩ := e
      exact ⟨ptr b _,fun w' => by simp [execOp,e],⟨b,hb,rfl⟩⟩
    · rename_i hx
      refine ⟨_,fun ρ σ a w hr => ?_,h⟩
      have e := hr.ev x
      rw [hx] at e
      obtain ⟨ad,n,m,hs,e⟩ := e
      exact ⟨.pointer (some (ad.add _)),fun w' => by simp [execOp,e],⟨ad,n,m,hs,rfl⟩⟩
    · rename_i hx
      refine ⟨_,fun ρ σ a w hr => ?_,h⟩
      have e := hr.ev x
      rw [hx] at e
      have e : a.eval x = .pointer (some _) := e
      exact ⟨.pointer (some _),fun w' => by simp [execOp,e],rfl⟩
    · exact h.elim
  · exact h.elim
def vf1 (X : Ctx) (o : Option Oper) (c : Cfg) (N : Cfg → Prop) : Prop := match o with
  | some o => o.guard.isNone = true ∧ vcV X o c (nxq X o.dst c N)
  | none => False
def va1 (X : Ctx) (ops : Array Oper) (o : Option Oper) (c : Cfg) (N : Cfg → Prop) : Prop := match o with
  | some o => o.guard.isNone = true ∧ vcA X o (c.only (o.looksAt ops)) (fun l t s => dOk o.dst X.nt = true ∧ N (({ c with loc := c.loc ++ [.cells l t] } : Cfg).put o.dst s))
  | none => False
def vaO (X : Ctx) (ops : Array Oper) (al : Option Nat) (c : Cfg) (N : Cfg → Prop) : Prop := match al with
  | none => N c
  | some k => va1 X ops (ops[k]?) c N
def vs1 (X : Ctx) (ops : Array Oper) (o : Option Oper) (c : Cfg) (N : Cfg → Prop) : Prop := match o with
  | some o => vc X ops [o] c N
  | none => False
def vplan (X : Ctx) (ops : Array Oper) : List Pl → Cfg → (Cfg → Prop) → Prop
  | [],c,N => N c
  | .s i :: r,c,N => vs1 X ops (ops[i]?) c (fun c' => vplan X ops r c' N)
  | .b i j :: r,c,N => vs1 X ops (ops[i]?) c (fun c' => vs1 X ops (ops[j]?) c' (fun c' => vplan X ops r c' N)) ∧ vs1 X ops (ops[j]?) c (fun c' => vs1 X ops (ops[i]?) c' (fun c' => vplan X ops r c' N))
  | .f i :: r,c,N => vf1 X (ops[i]?) c (fun c' => vplan X ops r c' N)
  | .q is al :: r,c,N => vq X ops is c (fun c' => vaO X ops al c' (fun c' => vplan X ops r c' N))
theorem setL_getD {L : Array Bool} {j : Nat} : ∀ {is : List Nat},j ∉ is → ∀ d,(setL L is).getD j d = L.getD j d
  | [],_,_ => rfl
  | i :: is,h,d => by
    simp only [List.mem_cons,not_or] at h
    rw [setL,setL_getD h.2,getD_set_ne d (fun e => h.1 e.symm)]
theorem setL_size : ∀ {is : List Nat} {L : Array Bool},(setL L is).size = L.size
  | [],_ => rfl
  | i :: is,L => by rw [setL,setL_size];simp
theorem setL_true {j : Nat} : ∀ {is : List Nat} {L : Array Bool},(j ∈ is ∧ j < L.size) ∨ L.getD j false = true → (setL L is).getD j false = true
  | [],L,h => by simpa [setL] using h
  | i :: is,L,h => by
    rw [setL]
    rcases h with ⟨h1,h2⟩ | h
    · rcases List.mem_cons.1 h1 with rfl | h1
      · exact setL_true (.inr (by simp [h2]))
      · exact setL_true (.inl ⟨h1,by simpa using h2⟩)
    · exact setL_true (.inr (getD_set_true h))
end
theorem Oper.wp_mono3 {P : Program} {o : Oper} {a : Act} {w : World} {K K' : Act → World → Prop} {Q Q' : Exit → Act → World → Prop} (hK : ∀ a w,K a w → K' a w)
    (hQ : ∀ e a w,e ≠ .normal → Q e a w → Q' e a w) (h : o.wp P a w K Q) : o.wp P a w K' Q' := by
  unfold Oper.wp at *
  unfold Oper.upon at *
  split at h
  · exact hK _ _ h
  · exact hK _ _ h
  · exact hK _ _ h
  · refine h.mono ?_
    intro e w' hr
    cases e with
    | returned v => exact hK _ _ hr
    | panicked ch => exact hQ _ _ _ (by simp) hr
    | outgrown => obtain ⟨a₀,w₀,hq⟩ := hr;exact ⟨a₀,w₀,hQ _ _ _ (by simp) hq⟩
  · exact h.mono (fun v w' hr => hK _ _ hr)
  · exact hQ _ _ _ (by simp) h
  · exact h.elim
def QN (A : Act → World → Prop) : Exit → Act → World → Prop := fun e a w => e = .normal ∧ A a w
theorem wpOp_list {P : Program} {ops : Array Oper} {A : Act → World → Prop} {i : Nat} {o : Oper} (ho : ops[i]? = some o) {K : Act → World → Prop} {a : Act} {w : World}
    (h : wpList P ops (QN K) [o] a w) : wpOp P ops (QN A) i K a w := by
  unfold wpOp
  simp only [ho]
  unfold wpList at h
  split
  · rename_i hw
    rw [if_pos hw] at h
    rcases h with h1 | ⟨_,a0,w0,h1⟩
    · exact .inl (Oper.wp_mono3 (fun a w h => h.2) (fun e a w he h => absurd h.1 he) h1)
    · exact absurd h1.1 (by simp)
  · rename_i hw
    rw [if_neg hw] at h
    exact h.2
section
variable {ops : Array Oper}
theorem inOK_spec {L : Array Bool} : ∀ {is done : List Nat},inOK ops L done is = true → ∀ {k i : Nat},is[k]? = some i →
    L.getD i true = false ∧ i ∉ done ∧ (∀ k',k' < k → is[k']? ≠ some i) ∧ ∃ o,ops[i]? = some o ∧ ∀ e ∈ o.after,Region.binds .any e = true → L.getD e.on false = true ∨ e.on ∈ done ∨ ∃ k',k' < k ∧ is[k']? = some e.on
  | [],done,h,k,i,hk => by simp at hk
  | j :: is,done,h,k,i,hk => by
    simp only [inOK,Bool.and_eq_true,Bool.not_eq_true'] at h
    obtain ⟨⟨⟨h1,h2⟩,h3⟩,h4⟩ := h
    cases k with
    | zero =>
      simp at hk;subst hk
      refine ⟨h1,by simpa using h2,fun k' hk' => absurd hk' (Nat.not_lt_zero _),?_⟩
      unfold depsIn at h3
      split at h3
      · rename_i o ho
        refine ⟨o,ho,fun e he hb => ?_⟩
        have := Array.all_eq_true_iff_forall_mem.1 h3 e he
        simp only [Bool.or_eq_true,Bool.not_eq_true'] at this
        rcases this with (h5 | h5) | h5
        · rw [hb] at h5;cases h5
        · exact .inl h5
        · exact .inr (.inl (by simpa using h5))
      · cases h3
    | succ k =>
      have hk : is[k]? = some i := by simpa using hk
      obtain ⟨g1,g2,g3,o,g4,g5⟩ := inOK_spec h4 hk
      simp only [List.mem_cons,not_or] at g2
      refine ⟨g1,g2.2,fun k' hk' => ?_,o,g4,fun e he hb => ?_⟩
      · cases k' with
        | zero => simp;exact fun e => g2.1 e.symm
        | succ k' => simpa using g3 k' (by omega)
      · rcases g5 e he hb with h5 | h5 | ⟨k',h6,h7⟩
        · exact .inl h5
        · rcases List.mem_cons.1 h5 with rfl | h5
          · exact .inr (.inr ⟨0,by omega,rfl⟩)
          · exact .inr (.inl h5)
        · exact .inr (.inr ⟨k' + 1,by omega,by simpa using h7⟩)
theorem inOK_nodup {L : Array Bool} : ∀ {is done : List Nat},inOK ops L done is = true → is.Nodup
  | [],_,_ => by simp
  | j :: is,done,h => by
    simp only [inOK,Bool.and_eq_true] at h
    refine List.nodup_cons.2 ⟨fun hj => ?_,inOK_nodup h.2⟩
    obtain ⟨k,hk⟩ := List.mem_iff_getElem?.1 hj
    exact (inOK_spec h.2 hk).2.1 (by simp)
theorem sinkT_spec {listed : Array Bool} (hcl : ∀ j oj,ops[j]? = some oj → listed.getD j false = true → ∀ e ∈ oj.after,Region.binds .any e = true → listed.getD e.on false = true) {L : Array Bool} (hmono : ∀ j,L.getD j false = true → listed.getD j false = true) {t : Nat} :
    ∀ {is : List Nat},sinkT ops L t is = true → (∃ i ∈ is,listed.getD i false = false) → ∃ i ∈ is,listed.getD i false = false ∧ Region.waitsFor .any ops t i = true
  | [],_,h => by obtain ⟨i,hi,_⟩ := h;simp at hi
  | i :: r,hs,h => by
    simp only [sinkT,Bool.and_eq_true,Bool.or_eq_true] at hs
    by_cases hr : ∃ j ∈ r,listed.getD j false = false
    · obtain ⟨j,h1,h2,h3⟩ := sinkT_spec hcl hmono hs.2 hr
      exact ⟨j,by simp [h1],h2,h3⟩
    · obtain ⟨j,hj,hl⟩ := h
      rcases List.mem_cons.1 hj with rfl | hj
      · rcases hs.1 with (h1 | h1) | h1
        · exact ⟨j,by simp,hl,h1⟩
        rotate_left
        · obtain ⟨q,_,hw⟩ := List.any_eq_true.1 h1
          simp only [Bool.and_eq_true] at hw
          obtain ⟨oq,ho,e,he,hb,hon⟩ := Region.waitsFor_spec hw.2
          have := hcl q oq ho (hmono q hw.1) e he hb
          rw [hon,hl] at this
          cases this
        · obtain ⟨q,hq,hw⟩ := List.any_eq_true.1 h1
          obtain ⟨oq,ho,e,he,hb,hon⟩ := Region.waitsFor_spec hw
          have hql : listed.getD q false = true := by
            cases hc : listed.getD q false with
            | true => rfl
            | false => exact absurd ⟨q,hq,hc⟩ hr
          have := hcl q oq ho hql e he hb
          rw [hon,hl] at this
          cases this
      · exact absurd ⟨j,hj,hl⟩ hr
def cntU (listed : Array Bool) (is : List Nat) : Nat := (is.filter fun i => !(listed.getD i false)).length
theorem cntU_set {listed : Array Bool} {i : Nat} (hi : i < listed.size) (hl : listed.getD i false = false) : ∀ {is : List Nat},is.Nodup → i ∈ is → cntU (listed.setIfInBounds i true) is + 1 = cntU listed is
  | [],_,h => by simp at h
  | j :: is,hn,h => by
    rw [List.nodup_cons] at hn
    have hcong : ∀ l : List Nat,i ∉ l → cntU (listed.setIfInBounds i true) l = cntU listed l := fun l hl => by
      unfold cntU
      congr 1
      refine List.filter_congr (fun x hx => ?_)
      rw [getD_set_ne false (show i ≠ x from fun e => hl (by rw [e];exact hx))]
    by_cases e : j = i
    · subst e
      have h1 := hcong is hn.1
      unfold cntU at h1 ⊢
      have ht : (listed.setIfInBounds j true).getD j false = true := by simp [hi]
      simp only [List.filter_cons,ht,hl,Bool.not_true,Bool.not_false,if_true,Bool.false_eq_true,if_false,List.length_cons]
      rw [h1]
    · have him : i ∈ is := by
        rcases List.mem_cons.1 h with h | h
        · exact absurd h.symm e
        · exact h
      have h1 := cntU_set hi hl hn.2 him
      unfold cntU at h1 ⊢
      simp only [List.filter_cons]
      rw [getD_set_ne false (fun e2 => e e2.symm)]
      split
      · simp only [List.length_cons];omega
      · exact h1
theorem cntU_zero {listed : Array Bool} {is : List Nat} (h : cntU listed is = 0) : ∀ i ∈ is,listed.getD i false = true := fun i hi => by
  unfold cntU at h
  have h1 := List.eq_nil_of_length_eq_zero h
  have := List.filter_eq_nil_iff.1 h1 i hi
  simpa using this
theorem cntU_first {listed : Array Bool} {is : List Nat} (h : cntU listed is ≠ 0) : ∃ (k i : Nat),is[k]? = some i ∧ listed.getD i false = false ∧ ∀ (k' i' : Nat),k' < k → is[k']? = some i' → listed.getD i' false = true := by
  induction is with
  | nil => simp [cntU] at h
  | cons j is ih =>
    cases hj : listed.getD j false with
    | false => exact ⟨0,j,rfl,hj,fun k' i' hk' => absurd hk' (Nat.not_lt_zero _)⟩
    | true =>
      have h' : cntU listed is ≠ 0 := by
        unfold cntU at h ⊢
        simp only [List.filter_cons,hj,Bool.not_true,Bool.false_eq_true,if_false] at h
        exact h
      obtain ⟨k,i,h1,h2,h3⟩ := ih h'
      refine ⟨k + 1,i,by simpa using h1,h2,fun k' i' hk' hi' => ?_⟩
      cases k' with
      | zero => simp at hi';subst hi';exact hj
      | succ k' => exact h3 k' i' (by omega) (by simpa using hi')
theorem cntU_all {listed : Array Bool} {is : List Nat} (h : ∀ i ∈ is,listed.getD i false = false) : cntU listed is = is.length := by
  unfold cntU
  rw [List.filter_eq_self.2 (fun i hi => by simp [h i hi])]
end
def cntP : List Pl → Nat
  | [] => 0
  | .s _ :: r => cntP r + 1
  | .b _ _ :: r => cntP r + 2
  | .f _ :: r => cntP r + 1
  | .q is al :: r => (is ++ alL al).length + cntP r
structure AlF (X : Ctx) (ops : Array Oper) (al : Option Nat) (c : Cfg) (l : List SC) (t : TypeId) (s : SV) : Prop where
  op : ∀ k,al = some k → ∃ o,ops[k]? = some o ∧ o.guard = none ∧ dOk o.dst X.nt = true ∧ QA X o (c.only (o.looksAt ops)) l t s
section
variable {X : Ctx} {ops : Array Oper}
theorem getD_ext {L M : Array Bool} (hs : L.size = M.size) (h : ∀ j,L.getD j false = M.getD j false) : L = M := by
  apply Array.ext hs
  intro i h1 h2
  have := h i
  simpa [h1,h2] using this
theorem Rel.act {c : Cfg} {ρ : List (List Nat)} {σ : List Value} {a a' : Act} {w : World} (h : Rel X ⟨[],c.loc⟩ ρ σ a w) (hs : a'.tmps.size = a.tmps.size) (hd : a'.defers = a.defers) (hv : ∀ t s,c.env.lookup t = some s → ∃ v,a'.tmps[t]? = some v ∧ DV σ s v) : Rel X c ρ σ a' w :=
  ⟨hv,h.len,h.lenS,h.loc,h.inj,h.lt,h.fresh,h.low,by rw [hd];exact h.defers,by rw [hs];exact h.size,h.one,h.pin⟩
theorem put_size (a : Act) (d : Option Tmp) (v : Value) : (a.put d v).tmps.size = a.tmps.size := by cases d <;> simp [Act.put]
theorem put_defers' (a : Act) (d : Option Tmp) (v : Value) : (a.put d v).defers = a.defers := by cases d <;> rfl
theorem put_self {a : Act} {t : Tmp} {v : Value} (h : t < a.tmps.size) : (a.put (some t) v).tmps[t]? = some v := by simp [Act.put,h]
theorem put_other {a : Act} {d : Option Tmp} {t : Tmp} {v : Value} (h : d ≠ some t) : (a.put d v).tmps[t]? = a.tmps[t]? := by
  cases d with
  | none => rfl
  | some x => simp only [Act.put];rw [Array.getElem?_setIfInBounds_ne (fun e => h (by rw [e]))]
theorem set_sound {A : Act → World → Prop} {is : List Nat} {al : Option Nat} {L : Array Bool} {c c1 : Cfg} {ss : List SV} {l : List SC} {t : TypeId} {s : SV} {ρ : List (List Nat)} {σ : List Value} {f : Nat}
    (hQF : QF X ops is c ss c1) (hA : AlF X ops al c1 l t s) (hL : L.size = ops.size) (hq : (inOK ops L [] (is ++ alL al) && dataOK ops (is ++ alL al) && outOK ops L (is ++ alL al)) = true)
    (hnext : ∀ ρ' σ' a' w',Rel X (match al with | none => c1 | some k => (({ c1 with loc := c1.loc ++ [.cells l t] } : Cfg).put (dstOf ops k) s)) ρ' σ' a' w' → wpAny X.P .any ops (QN A) f (setL L (is ++ alL al)) a' w') :
    ∀ (n : Nat) (listed : Array Bool) (a : Act) (w : World),cntU listed (is ++ alL al) = n → listed.size = ops.size → (∀ j,j ∉ is ++ alL al → ∀ d,listed.getD j d = L.getD j d) →
      (∀ j oj,ops[j]? = some oj → listed.getD j false = true → ∀ e ∈ oj.after,Region.binds .any e = true → listed.getD e.on false = true) → (∀ j,L.getD j false = true → listed.getD j false = true) →
      Rel X ⟨[],c.loc⟩ ρ σ a w →
      (∀ (k i : Nat) (u : SV),is[k]? = some i → ss[k]? = some u → listed.getD i false = true → ∀ t,dstOf ops i = some t → ∃ v,a.tmps[t]? = some v ∧ DV σ u v) →
      (∀ t u,(∀ i ∈ is ++ alL al,dstOf ops i ≠ some t) → c.env.lookup t = some u → ∃ v,a.tmps[t]? = some v ∧ DV σ u v) →
      (∀ k,al = some k → listed.getD k false = true → ∃ b cs,w.heap[b]? = some (.cells (List.toArray cs) t (0,0)) ∧ b ∉ ρ.flatten ∧ X.wi.heap.size ≤ b ∧ All2 (DC σ) l cs ∧ ∀ td,dstOf ops k = some td → ∃ v,a.tmps[td]? = some v ∧ DV (σ ++ [ptr b 0]) s v) →
      wpAny X.P .any ops (QN A) (n + f) listed a w := by
  simp only [Bool.and_eq_true] at hq
  obtain ⟨⟨hin,hdata⟩,hout⟩ := hq
  have hnd := inOK_nodup hin
  have hdataS : ∀ i ∈ is ++ alL al,∀ j ∈ is ++ alL al,∀ d,dstOf ops j = some d → (i = j ∨ dstOf ops i ≠ some d) ∧ (d ∈ looksOf ops i → Region.waitsFor .any ops i j = true) := fun i hi j hj d hd => by
    have h1 := List.all_eq_true.1 (List.all_eq_true.1 hdata i hi) j hj
    rw [hd] at h1
    simp only [Bool.and_eq_true,Bool.or_eq_true,beq_iff_eq,bne_iff_ne,Bool.not_eq_true',List.contains_eq_mem,decide_eq_false_iff_not] at h1
    exact ⟨h1.1,fun hm => h1.2.resolve_left (fun h => h hm)⟩
  have hLun : ∀ i ∈ is ++ alL al,L.getD i true = false := fun i hi => by
    obtain ⟨k,hk⟩ := List.mem_iff_getElem?.1 hi
    exact (inOK_spec hin hk).1
  have hop : ∀ i ∈ is ++ alL al,∃ o,ops[i]? = some o := fun i hi => by
    obtain ⟨k,hk⟩ := List.mem_iff_getElem?.1 hi
    obtain ⟨_,_,_,o,h1,_⟩ := inOK_spec hin hk
    exact ⟨o,h1⟩
  intro n
  induction n with
  | zero =>
    intro listed a w hc hsz hoth hcl hmono hR hv hb hal
    have hall := cntU_zero hc
    have heq : listed = setL L (is ++ alL al) := by
      refine getD_ext (by rw [hsz,setL_size,hL]) (fun j => ?_)
      by_cases hj : j ∈ is ++ alL al
      · obtain ⟨o,ho⟩ := hop j hj
        rw [hall j hj,setL_true (.inl ⟨hj,by rw [hL];exact (Array.getElem?_eq_some_iff.1 ho).1⟩)]
      · rw [setL_getD hj,hoth j hj]
    rw [Nat.zero_add,heq]
    have hR1 : ∀ (ex : al = none ∨ ∀ k,al = some k → True),(∀ t' u,c1.env.lookup t' = some u → (∀ k,al = some k → dstOf ops k ≠ some t') → ∃ v,a.tmps[t']? = some v ∧ DV σ u v) := fun _ t' u hu hnk => by
      rcases hQF.last hu with ⟨k,i,h1,h2,h3⟩ | ⟨h1,h2⟩
      · exact hv k i u h1 h2 (hall i (List.mem_append_left _ (List.mem_of_getElem? h1))) t' h3
      · refine hb t' u (fun i hi => ?_) h2
        rcases List.mem_append.1 hi with hi | hi
        · exact h1 i hi
        · cases al with
          | none => simp [alL] at hi
          | some k => simp [alL] at hi;subst hi;exact hnk i rfl
    cases al with
    | none =>
      refine hnext ρ σ a w ?_
      have hR' : Rel X ⟨[],c1.loc⟩ ρ σ a w := by rw [hQF.loc];exact hR
      exact hR'.act rfl rfl (fun t' u hu => hR1 (.inl rfl) t' u hu (fun k hk => by cases hk))
    | some k =>
      obtain ⟨b,cs,g1,g2,g3,g4,g5⟩ := hal k rfl (hall k (by simp [alL]))
      have hR' : Rel X ⟨[],c1.loc⟩ ρ σ a w := by rw [hQF.loc];exact hR
      have hR2 := hR'.adopt (c := ⟨[],c1.loc⟩) g4 g1 g2 g3
      refine hnext (ρ ++ [[b]]) (σ ++ [ptr b 0]) a w ?_
      refine Rel.act (c := (({ c1 with loc := c1.loc ++ [.cells l t] } : Cfg).put (dstOf ops k) s)) (by rw [put_loc];exact hR2) rfl rfl (fun t' u hu => ?_)
      rcases put_lookup hu with ⟨e,rfl⟩ | ⟨e,h3⟩
      · exact g5 t' e
      · obtain ⟨v,h4,h5⟩ := hR1 (.inr (fun _ _ => trivial)) t' u h3 (fun k' hk' => by cases hk';exact e)
        exact ⟨v,h4,DV.mono (Up.append _ _) _ _ h5⟩
  | succ n ih =>
    intro listed a w hc hsz hoth hcl hmono hR hv hb hal
    have hlt : ∀ i ∈ is ++ alL al,i < listed.size := fun i hi => by
      obtain ⟨o,ho⟩ := hop i hi
      rw [hsz];exact (Array.getElem?_eq_some_iff.1 ho).1
    rw [show n + 1 + f = (n + f) + 1 by omega]
    refine ⟨fun hnil => ?_,fun i hi => ?_⟩
    ·
      obtain ⟨k,i,h1,h2,h3⟩ := cntU_first (listed := listed) (is := is ++ alL al) (by omega)
      obtain ⟨g1,g2,g3,o,g4,g5⟩ := inOK_spec hin h1
      have hmem : i ∈ is ++ alL al := List.mem_of_getElem? h1
      have : i ∈ Region.ready .any ops listed := by
        refine mem_ready.2 ⟨getD_in (hlt i hmem) h2,o,g4,fun e he hbd => ?_⟩
        rcases g5 e he hbd with h5 | h5 | ⟨k',h6,h7⟩
        · exact hmono _ h5
        · simp at h5
        · exact h3 k' _ h6 h7
      rw [hnil] at this
      cases this
    · obtain ⟨hun,o,ho,hready⟩ := mem_ready.1 hi
      have hilt : i < ops.size := (Array.getElem?_eq_some_iff.1 ho).1
      have hmem : i ∈ is ++ alL al := by
        refine Classical.byContradiction (fun hnm => ?_)
        have h1 := List.all_eq_true.1 hout i (List.mem_range.2 hilt)
        have hLi : L.getD i true = false := by rw [← hoth i hnm];exact hun
        simp only [hLi,Bool.false_or,Bool.or_eq_true] at h1
        rcases h1 with (h1 | h1) | h1
        · exact hnm (by simpa using h1)
        · obtain ⟨u,hu,hu2⟩ := List.any_eq_true.1 h1
          simp only [Bool.and_eq_true,Bool.not_eq_true',List.contains_eq_mem,decide_eq_false_iff_not] at hu2
          obtain ⟨ou,hou,e,he,hbd,hon⟩ := Region.waitsFor_spec hu2.2
          rw [ho] at hou;cases hou
          have h2 := hready e he hbd
          rw [hon,hoth u hu2.1.2,getD_both hu2.1.1] at h2
          cases h2
        · have hne : cntU listed (is ++ alL al) ≠ 0 := by omega
          obtain ⟨k,j,h2,h3,_⟩ := cntU_first hne
          obtain ⟨j',h4,h5,h6⟩ := sinkT_spec hcl hmono h1 ⟨j,List.mem_of_getElem? h2,h3⟩
          obtain ⟨ou,hou,e,he,hbd,hon⟩ := Region.waitsFor_spec h6
          rw [ho] at hou;cases hou
          have h7 := hready e he hbd
          rw [hon,h5] at h7
          cases h7
      have hunf := getD_both hun
      have hset : ∀ j,j ≠ i → (listed.setIfInBounds i true).getD j false = listed.getD j false := fun j hj => getD_set_ne false (fun e => hj e.symm)
      have hseti : (listed.setIfInBounds i true).getD i false = true := by simp [hlt i hmem]
      have hcnt : cntU (listed.setIfInBounds i true) (is ++ alL al) = n := by
        have := cntU_set (hlt i hmem) hunf hnd hmem
        omega
      have hoth' : ∀ j,j ∉ is ++ alL al → ∀ d,(listed.setIfInBounds i true).getD j d = L.getD j d := fun j hj d => by
        rw [getD_set_ne d (show i ≠ j from fun e => hj (by rw [← e];exact hmem))];exact hoth j hj d
      have hcl' : ∀ j oj,ops[j]? = some oj → (listed.setIfInBounds i true).getD j false = true → ∀ e ∈ oj.after,Region.binds .any e = true → (listed.setIfInBounds i true).getD e.on false = true := fun j oj hj hl e he hbd => by
        by_cases hji : j = i
        · subst hji
          rw [ho] at hj;cases hj
          exact getD_set_true (hready e he hbd)
        · rw [hset j hji] at hl
          exact getD_set_true (hcl j oj hj hl e he hbd)
      have hmono' : ∀ j,L.getD j false = true → (listed.setIfInBounds i true).getD j false = true := fun j hj => getD_set_true (hmono j hj)
      have hdo : dstOf ops i = o.dst := by simp [dstOf,ho]
      have hlk : looksOf ops i = o.looksAt ops := by simp [looksOf,ho]
      have henv : ∀ (ck : Cfg),ck.loc = c.loc → (∀ {t : Tmp} {u : SV},ck.env.lookup t = some u → (∃ (k' j : Nat),(is ++ alL al)[k']? = some j ∧ j ∈ is ∧ (∃ (k2 : Nat),is[k2]? = some j ∧ ss[k2]? = some u) ∧ dstOf ops j = some t) ∨ ((∀ j ∈ is ++ alL al,Region.waitsFor .any ops i j = true → dstOf ops j ≠ some t) ∧ c.env.lookup t = some u)) →
          Rel X (ck.only (o.looksAt ops)) ρ σ a w := fun ck hloc hck => by
        refine Rel.act (c := ck.only (o.looksAt ops)) (by simp only [Cfg.only];rw [hloc];exact hR) rfl rfl (fun t' u hu => ?_)
        obtain ⟨h1,h2⟩ := only_lookup _ _ _ hu
        rcases hck h2 with ⟨k',j,h3,h4,⟨k2,h5,h6⟩,h7⟩ | ⟨h3,h4⟩
        · have hw := (hdataS i hmem j (List.mem_append_left _ h4) t' h7).2 (by rw [hlk];exact h1)
          obtain ⟨ou,hou,e,he,hbd,hon⟩ := Region.waitsFor_spec hw
          rw [ho] at hou;cases hou
          have hl := hready e he hbd
          rw [hon] at hl
          exact hv k2 j u h5 h6 hl t' h7
        · refine hb t' u (fun j hj e => ?_) h4
          exact h3 j hj ((hdataS i hmem j hj t' e).2 (by rw [hlk];exact h1)) e
      have hwaitpos : ∀ {k : Nat},(is ++ alL al)[k]? = some i → ∀ j ∈ is ++ alL al,Region.waitsFor .any ops i j = true → ∃ (k' : Nat),k' < k ∧ (is ++ alL al)[k']? = some j := fun {k} hk j hj hw => by
        obtain ⟨_,_,_,o',h4,h5⟩ := inOK_spec hin hk
        rw [ho] at h4;cases h4
        obtain ⟨ou,hou,e,he,hbd,hon⟩ := Region.waitsFor_spec hw
        rw [ho] at hou;cases hou
        rcases h5 e he hbd with h6 | h6 | h6
        · rw [hon] at h6
          have := hLun j hj
          rw [getD_both this] at h6
          cases h6
        · simp at h6
        · rw [hon] at h6;exact h6
      have hvput : ∀ v,(∀ (k j : Nat) (u : SV),is[k]? = some j → ss[k]? = some u → (listed.setIfInBounds i true).getD j false = true → j ≠ i → ∀ t,dstOf ops j = some t → ∃ v',(a.put o.dst v).tmps[t]? = some v' ∧ DV σ u v') := fun v k j u h1 h2 h3 hji t' h4 => by
        rw [hset j hji] at h3
        have hjm : j ∈ is ++ alL al := List.mem_append_left _ (List.mem_of_getElem? h1)
        have hne : o.dst ≠ some t' := by
          rcases (hdataS i hmem j hjm t' h4).1 with h | h
          · exact absurd h.symm hji
          · rw [← hdo];exact h
        rw [put_other hne]
        exact hv k j u h1 h2 h3 t' h4
      have hbput : ∀ v,(∀ (t : Tmp) (u : SV),(∀ j ∈ is ++ alL al,dstOf ops j ≠ some t) → c.env.lookup t = some u → ∃ v',(a.put o.dst v).tmps[t]? = some v' ∧ DV σ u v') := fun v t' u h1 h2 => by
        rw [put_other (by rw [← hdo];exact h1 i hmem)]
        exact hb t' u h1 h2
      unfold wpOp
      simp only [ho]
      rcases List.mem_append.1 hmem with him | him
      · obtain ⟨k,hk⟩ := List.mem_iff_getElem?.1 him
        obtain ⟨o',u,ck,g1,g2,g3,g4,g5,g6⟩ := hQF.at hk
        rw [ho] at g1;cases g1
        have hk' : (is ++ alL al)[k]? = some i := by rw [List.getElem?_append_left (List.getElem?_eq_some_iff.1 hk).1];exact hk
        have hRo := henv ck g5 (fun {t' u'} hu => by
          rcases g6 hu with ⟨k',j,q1,q2,q3,q4⟩ | ⟨q1,q2⟩
          · refine .inl ⟨k',j,?_,List.mem_of_getElem? q2,⟨k',q2,q3⟩,q4⟩
            rw [List.getElem?_append_left (List.getElem?_eq_some_iff.1 q2).1];exact q2
          · refine .inr ⟨fun j hj hw e => ?_,q2⟩
            obtain ⟨k',h1,h2⟩ := hwaitpos hk' j hj hw
            have hlt' : k' < is.length := Nat.lt_trans h1 (List.getElem?_eq_some_iff.1 hk).1
            rw [List.getElem?_append_left hlt'] at h2
            exact q1 k' j h1 h2 e)
        refine g4 ρ σ a w hRo _ _ (fun v w' hbl hdv => ?_)
        refine ih (listed.setIfInBounds i true) (a.put o.dst v) w' hcnt (by simp [hsz]) hoth' hcl' hmono' ?_ ?_ (hbput v) ?_
        · exact Rel.act (c := ⟨[],c.loc⟩) (hR.below hbl) (put_size _ _ _) (put_defers' _ _ _) (fun t' u' h => by simp at h)
        · intro k2 j u2 h1 h2 h3 t' h4
          by_cases hji : j = i
          · subst hji
            have hkk : k2 = k := by
              have a1 : (is ++ alL al)[k2]? = some j := by rw [List.getElem?_append_left (List.getElem?_eq_some_iff.1 h1).1];exact h1
              rcases Nat.lt_trichotomy k2 k with h | h | h
              · exact absurd a1 ((inOK_spec hin hk').2.2.1 k2 h)
              · exact h
              · exact absurd hk' ((inOK_spec hin a1).2.2.1 k h)
            subst hkk
            rw [g3] at h2;cases h2
            rw [hdo] at h4
            rw [h4]
            refine ⟨v,put_self ?_,hdv⟩
            rw [h4] at g2
            rw [hR.size]
            simpa [dOk] using g2
          · exact hvput v k2 j u2 h1 h2 h3 hji t' h4
        · intro k2 e2 hl2
          have hne : k2 ≠ i := fun e => by
            have a1 : (is ++ alL al)[is.length]? = some k2 := by rw [List.getElem?_append_right (Nat.le_refl _),e2];simp [alL]
            rw [e] at a1
            exact (inOK_spec hin a1).2.2.1 k (List.getElem?_eq_some_iff.1 hk).1 hk'
          rw [hset k2 hne] at hl2
          obtain ⟨b,cs,q1,q2,q3,q4,q5⟩ := hal k2 e2 hl2
          have hblt : b < w.heap.size := (Array.getElem?_eq_some_iff.1 q1).1
          refine ⟨b,cs,by rw [hbl.block b hblt];exact q1,q2,q3,q4,fun td htd => ?_⟩
          obtain ⟨v',r1,r2⟩ := q5 td htd
          refine ⟨v',?_,r2⟩
          rw [put_other]
          · exact r1
          · have hk2m : k2 ∈ is ++ alL al := List.mem_append_right _ (by rw [e2];simp [alL])
            rcases (hdataS i hmem k2 hk2m td htd).1 with h | h
            · exact absurd h.symm hne
            · rw [← hdo];exact h
      · have hali : al = some i := by
          cases al with
          | none => simp [alL] at him
          | some k => simp [alL] at him;rw [him]
        obtain ⟨o',q1,q2,q3,q4⟩ := hA.op i hali
        rw [ho] at q1;cases q1
        have hki : (is ++ alL al)[is.length]? = some i := by rw [List.getElem?_append_right (Nat.le_refl _),hali];simp [alL]
        have hRo := henv c1 hQF.loc (fun {t' u'} hu => by
          rcases hQF.last hu with ⟨k',j,p1,p2,p3⟩ | ⟨p1,p2⟩
          · refine .inl ⟨k',j,?_,List.mem_of_getElem? p1,⟨k',p1,p2⟩,p3⟩
            rw [List.getElem?_append_left (List.getElem?_eq_some_iff.1 p1).1];exact p1
          · refine .inr ⟨fun j hj hw e => ?_,p2⟩
            obtain ⟨k',h1,h2⟩ := hwaitpos hki j hj hw
            rw [List.getElem?_append_left h1] at h2
            exact p1 j (List.mem_of_getElem? h2) e)
        obtain ⟨v,cs,hrun,hcs,hdv⟩ := q4 ρ σ a w hRo
        rw [if_pos (by simp [Region.wanted,q2])]
        left
        refine wp_of_value hrun ?_
        have hbl : Below w.heap.size w (w.alloc (.cells cs.toArray t)) := (Below.refl _ _).alloc (Nat.le_refl _) _
        refine ih (listed.setIfInBounds i true) (a.put o.dst v) _ hcnt (by simp [hsz]) hoth' hcl' hmono' ?_ ?_ (hbput v) ?_
        · exact Rel.act (c := ⟨[],c.loc⟩) (hR.below hbl) (put_size _ _ _) (put_defers' _ _ _) (fun t' u' h => by simp at h)
        · intro k2 j u2 h1 h2 h3 t' h4
          refine hvput v k2 j u2 h1 h2 h3 (fun e => ?_) t' h4
          subst e
          have a1 : (is ++ alL al)[k2]? = some j := by rw [List.getElem?_append_left (List.getElem?_eq_some_iff.1 h1).1];exact h1
          exact (inOK_spec hin hki).2.2.1 k2 (List.getElem?_eq_some_iff.1 h1).1 a1
        · intro k2 e2 _
          rw [hali] at e2;cases e2
          refine ⟨w.heap.size,cs,heap_alloc_new w _,fun hm => Nat.lt_irrefl _ (hR.lt _ hm),hR.low.size,hcs,fun td htd => ?_⟩
          rw [hdo] at htd
          rw [htd]
          refine ⟨v,put_self ?_,hdv⟩
          rw [htd] at q3
          rw [hR.size]
          simpa [dOk] using q3
theorem plan_sound {A : Act → World → Prop} (hsel : Region.noSelect ops = true) : ∀ (pl : List Pl) (c : Cfg) (N : Cfg → Prop) (L : Array Bool) (f : Nat),vplan X ops pl c N → planOK ops pl L = true → L.size = ops.size →
    (∀ c' ρ' σ' a' w',Rel X c' ρ' σ' a' w' → N c' → A a' w') → ∀ ρ σ a w,Rel X c ρ σ a w → wpAny X.P .any ops (QN A) (cntP pl + f) L a w
  | [],c,N,L,f,h,hp,hL,hA,ρ,σ,a,w,hr => by
    simp only [planOK,List.isEmpty_iff] at hp
    exact wpAny_done hp ⟨rfl,hA _ _ _ _ _ hr h⟩ _
  | .s i :: r,c,N,L,f,h,hp,hL,hA,ρ,σ,a,w,hr => by
    simp only [planOK,Bool.and_eq_true,decide_eq_true_eq] at hp
    simp only [vplan] at h
    unfold vs1 at h
    split at h
    · rename_i o ho
      rw [show cntP (.s i :: r) + f = (cntP r + f) + 1 by simp only [cntP];omega]
      refine wpAny_all hp.1 (by simp) (fun j hj => ?_)
      have : j = i := by simpa using hj
      subst this
      refine wpOp_list ho ?_
      exact vc_sound h _ (fun c3 ρ3 σ3 a3 w3 hr3 hk => ⟨rfl,plan_sound hsel r c3 N _ f hk hp.2 (by simp [hL]) hA ρ3 σ3 a3 w3 hr3⟩) ρ σ a w hr
    · exact h.elim
  | .b i j :: r,c,N,L,f,h,hp,hL,hA,ρ,σ,a,w,hr => by
    simp only [planOK,Bool.and_eq_true,decide_eq_true_eq] at hp
    obtain ⟨⟨⟨⟨hp1,hp2⟩,hp3⟩,hp4⟩,hp5⟩ := hp
    simp only [vplan] at h
    obtain ⟨ha,hb⟩ := h
    rw [show cntP (.b i j :: r) + f = ((cntP r + f) + 1) + 1 by simp only [cntP];omega]
    refine wpAny_all hp1 (by simp) (fun k hk => ?_)
    have hk : k = i ∨ k = j := by simpa using hk
    rcases hk with rfl | rfl
    · unfold vs1 at ha
      split at ha
      · rename_i o ho
        refine wpOp_list ho ?_
        refine vc_sound ha _ (fun c3 ρ3 σ3 a3 w3 hr3 hk3 => ⟨rfl,?_⟩) ρ σ a w hr
        unfold vs1 at hk3
        split at hk3
        · rename_i o2 ho2
          refine wpAny_all hp2 (by simp) (fun q hq => ?_)
          have : q = j := by simpa using hq
          subst this
          refine wpOp_list ho2 ?_
          exact vc_sound hk3 _ (fun c4 ρ4 σ4 a4 w4 hr4 hk4 => ⟨rfl,plan_sound hsel r c4 N _ f hk4 hp4 (by simp [hL]) hA ρ4 σ4 a4 w4 hr4⟩) ρ3 σ3 a3 w3 hr3
        · exact hk3.elim
      · exact ha.elim
    · unfold vs1 at hb
      split at hb
      · rename_i o ho
        refine wpOp_list ho ?_
        refine vc_sound hb _ (fun c3 ρ3 σ3 a3 w3 hr3 hk3 => ⟨rfl,?_⟩) ρ σ a w hr
        unfold vs1 at hk3
        split at hk3
        · rename_i o2 ho2
          refine wpAny_all hp3 (by simp) (fun q hq => ?_)
          have : q = i := by simpa using hq
          subst this
          refine wpOp_list ho2 ?_
          exact vc_sound hk3 _ (fun c4 ρ4 σ4 a4 w4 hr4 hk4 => ⟨rfl,plan_sound hsel r c4 N _ f hk4 hp5 (by simp [hL]) hA ρ4 σ4 a4 w4 hr4⟩) ρ3 σ3 a3 w3 hr3
        · exact hk3.elim
      · exact hb.elim
  | .f i :: r,c,N,L,f,h,hp,hL,hA,ρ,σ,a,w,hr => by
    simp only [planOK,Bool.and_eq_true] at hp
    simp only [vplan] at h
    unfold vf1 at h
    split at h
    · rename_i o ho
      obtain ⟨hg,h⟩ := h
      obtain ⟨s,hv,hd,hN⟩ := vcV_sound h
      have hg : o.guard = none := by cases hq : o.guard <;> simp_all
      rw [show cntP (.f i :: r) + f = (cntP r + f) + 1 by simp only [cntP];omega]
      obtain ⟨v,h1,h2⟩ := hv ρ σ a w hr
      exact wpAny_take ho hsel hp.1.2 hp.1.1 (fun _ _ _ h => absurd h.1 (by simp)) (.inl ⟨by simp [Region.wanted,hg],h1⟩)
        (plan_sound hsel r _ N _ f hN hp.2 (by simp [hL]) hA ρ σ _ w (hr.put hd h2))
    · exact h.elim
  | .q is al :: r,c,N,L,f,h,hp,hL,hA,ρ,σ,a,w,hr => by
    simp only [planOK,Bool.and_eq_true] at hp
    simp only [vplan] at h
    obtain ⟨ss,c1,hQF,h⟩ := vq_QF h
    have hq := hp.1
    simp only [qOK,Bool.and_eq_true] at hq
    obtain ⟨⟨⟨hlo,hin⟩,hq1⟩,hq2⟩ := hq
    have hq0 : (inOK ops L [] (is ++ alL al) && dataOK ops (is ++ alL al) && outOK ops L (is ++ alL al)) = true := by rw [hin,hq1,hq2];rfl
    have hLun : ∀ i ∈ is ++ alL al,L.getD i true = false := fun i hi => by
      obtain ⟨k,hk⟩ := List.mem_iff_getElem?.1 hi
      exact (inOK_spec hin hk).1
    have hcl : ∀ j oj,ops[j]? = some oj → L.getD j false = true → ∀ e ∈ oj.after,Region.binds .any e = true → L.getD e.on false = true := fun j oj hj hl e he hbd => by
      have h1 := List.all_eq_true.1 hlo j (List.mem_range.2 (Array.getElem?_eq_some_iff.1 hj).1)
      simp only [hl,Bool.not_true,Bool.false_or,hj] at h1
      have h2 := Array.all_eq_true_iff_forall_mem.1 h1 e he
      simpa [hbd] using h2
    rw [show cntP (.q is al :: r) + f = (is ++ alL al).length + (cntP r + f) by simp only [cntP];omega]
    have hR0 : Rel X ⟨[],c.loc⟩ ρ σ a w := ⟨fun t s he => by simp at he,hr.len,hr.lenS,hr.loc,hr.inj,hr.lt,hr.fresh,hr.low,hr.defers,hr.size,hr.one,hr.pin⟩
    have fin : ∀ (l : List SC) (t : TypeId) (s : SV),AlF X ops al c1 l t s → (∀ ρ' σ' a' w',Rel X (match al with | none => c1 | some k => (({ c1 with loc := c1.loc ++ [.cells l t] } : Cfg).put (dstOf ops k) s)) ρ' σ' a' w' → wpAny X.P .any ops (QN A) (cntP r + f) (setL L (is ++ alL al)) a' w') →
        wpAny X.P .any ops (QN A) ((is ++ alL al).length + (cntP r + f)) L a w := fun l t s hAl hnext =>
      set_sound hQF hAl hL hq0 hnext _ L a w (cntU_all (fun i hi => getD_both (hLun i hi))) hL (fun _ _ _ => rfl) hcl (fun _ h => h) hR0
        (fun k i u h1 _ h3 => by rw [getD_both (hLun i (List.mem_append_left _ (List.mem_of_getElem? h1)))] at h3;cases h3)
        (fun t' u _ hu => hr.env t' u hu)
        (fun k e h3 => by rw [getD_both (hLun k (List.mem_append_right _ (by rw [e];simp [alL])))] at h3;cases h3)
    cases al with
    | none =>
      simp only [vaO] at h
      exact fin [] 0 (vv undef) ⟨fun k hk => by cases hk⟩ (fun ρ' σ' a' w' hr' => plan_sound hsel r c1 N _ f h hp.2 (by rw [setL_size,hL]) hA ρ' σ' a' w' hr')
    | some k =>
      simp only [vaO] at h
      unfold va1 at h
      split at h
      · rename_i o ho
        obtain ⟨hg,h⟩ := h
        have hg : o.guard = none := by cases hq : o.guard <;> simp_all
        obtain ⟨l,t,s,hQA,hd,hN⟩ := vcA_sound h
        refine fin l t s ⟨fun k' hk' => ?_⟩ (fun ρ' σ' a' w' hr' => ?_)
        · cases hk';exact ⟨o,ho,hg,hd,hQA⟩
        · have hdo : dstOf ops k = o.dst := by simp [dstOf,ho]
          simp only [hdo] at hr'
          exact plan_sound hsel r _ N _ f hN hp.2 (by rw [setL_size,hL]) hA ρ' σ' a' w' hr'
      · exact h.elim
def planAll (l : List Oper) (pl : List Pl) : Bool := Region.noSelect l.toArray && decide (cntP pl = l.length) && planOK l.toArray pl (Array.replicate l.length false)
theorem SX.plan {c : Cfg} {id : Nat} {l : List Oper} {K : Exit → Cfg → Prop} (pl : List Pl) (hm : X.P.follows .mixedOrders = true) (hB : planAll l pl = true)
    (h : vplan X l.toArray pl c (K .normal)) : SX X (.region id l.toArray true) c K := fun ρ σ a w hr => by
  simp only [planAll,Bool.and_eq_true,decide_eq_true_eq] at hB
  have hr' : Rel X c ρ σ a { w with drawn := w.drawn + 1 } := hr.below ⟨rfl,rfl,rfl,Nat.le_refl _,fun _ _ => rfl⟩
  have h1 := plan_sound (A := fun a w => Post X K .normal a w) hB.1.1 pl c (K .normal) (Array.replicate l.length false) 0 h hB.2 (by simp) (fun c3 ρ3 σ3 a3 w3 hr3 hk => ⟨c3,ρ3,σ3,hr3,hk⟩) ρ σ a _ hr'
  rw [hB.1.2] at h1
  have h2 : (Code.region id l.toArray true).wp X.P (QN fun a w => Post X K .normal a w) a w := wp_region_any hm (by simpa using h1)
  exact Go.wp_mono h2 (fun e a w h => by obtain ⟨rfl,h⟩ := h;exact h)
inductive PlT where
  | f (i : Nat)
  | s (i : Nat)
  | b (i j : Nat)
  | q (is : List (Nat × List Tmp)) (al : Option (Nat × List Tmp))
def PlT.pl : PlT → Pl
  | .f i => .f i
  | .s i => .s i
  | .b i j => .b i j
  | .q is al => .q (is.map (·.1)) (al.map (·.1))
def lkOK (ops : Array Oper) (p : Nat × List Tmp) : Bool := match ops[p.1]? with | some o => o.looksAt ops == p.2 | none => false
def PlT.lk (ops : Array Oper) : PlT → Bool
  | .q is al => is.all (lkOK ops) && al.toList.all (lkOK ops)
  | _ => true
def vq1T (X : Ctx) (ops : Array Oper) (o : Option Oper) (ts : List Tmp) (c : Cfg) (N : Cfg → Prop) : Prop := match o with
  | some o => vqO X ops o o.guard (c.only ts) (nxq X o.dst c N)
  | none => False
def vqL (X : Ctx) (ops : Array Oper) : List (Nat × List Tmp) → Cfg → (Cfg → Prop) → Prop
  | [],c,N => N c
  | (i,ts) :: is,c,N => vq1T X ops (ops[i]?) ts c (fun c' => vqL X ops is c' N)
def va1T (X : Ctx) (o : Option Oper) (ts : List Tmp) (c : Cfg) (N : Cfg → Prop) : Prop := match o with
  | some o => o.guard.isNone = true ∧ vcA X o (c.only ts) (fun l t s => dOk o.dst X.nt = true ∧ N (({ c with loc := c.loc ++ [.cells l t] } : Cfg).put o.dst s))
  | none => False
def vaT (X : Ctx) (ops : Array Oper) (al : Option (Nat × List Tmp)) (c : Cfg) (N : Cfg → Prop) : Prop := match al with
  | none => N c
  | some (k,ts) => va1T X (ops[k]?) ts c N
def vplT (X : Ctx) (ops : Array Oper) : List PlT → Cfg → (Cfg → Prop) → Prop
  | [],c,N => N c
  | .s i :: r,c,N => vs1 X ops (ops[i]?) c (fun c' => vplT X ops r c' N)
  | .b i j :: r,c,N => vs1 X ops (ops[i]?) c (fun c' => vs1 X ops (ops[j]?) c' (fun c' => vplT X ops r c' N)) ∧ vs1 X ops (ops[j]?) c (fun c' => vs1 X ops (ops[i]?) c' (fun c' => vplT X ops r c' N))
  | .f i :: r,c,N => vf1 X (ops[i]?) c (fun c' => vplT X ops r c' N)
  | .q is al :: r,c,N => vqL X ops is c (fun c' => vaT X ops al c' (fun c' => vplT X ops r c' N))
theorem vqL_eq : ∀ {is : List (Nat × List Tmp)} {c : Cfg} {N : Cfg → Prop},is.all (lkOK ops) = true → vqL X ops is c N = vq X ops (is.map (·.1)) c N
  | [],c,N,_ => rfl
  | (i,ts) :: is,c,N,h => by
    simp only [List.all_cons,Bool.and_eq_true] at h
    obtain ⟨h1,h2⟩ := h
    simp only [vqL,List.map_cons,vq]
    rw [show (fun c' => vqL X ops is c' N) = (fun c' => vq X ops (is.map (·.1)) c' N) from funext fun c' => vqL_eq h2]
    unfold lkOK at h1
    cases ho : ops[i]? with
    | none => simp only [ho] at h1;cases h1
    | some o =>
      simp only [ho,beq_iff_eq] at h1
      simp only [vq1T,vq1,h1]
theorem vplT_eq : ∀ {pl : List PlT} {c : Cfg} {N : Cfg → Prop},pl.all (PlT.lk ops) = true → vplT X ops pl c N = vplan X ops (pl.map PlT.pl) c N
  | [],c,N,_ => rfl
  | p :: r,c,N,h => by
    simp only [List.all_cons,Bool.and_eq_true] at h
    obtain ⟨h1,h2⟩ := h
    have hf : (fun c' => vplT X ops r c' N) = (fun c' => vplan X ops (r.map PlT.pl) c' N) := funext fun c' => vplT_eq h2
    cases p with
    | s i => simp only [vplT,List.map_cons,PlT.pl,vplan,hf]
    | f i => simp only [vplT,List.map_cons,PlT.pl,vplan,hf]
    | b i j => simp only [vplT,List.map_cons,PlT.pl,vplan,hf]
    | q is al =>
      simp only [PlT.lk,Bool.and_eq_true] at h1
      simp only [vplT,List.map_cons,PlT.pl,vplan,hf]
      rw [vqL_eq h1.1]
      congr 1
      funext c'
      cases al with
      | none => rfl
      | some p =>
        obtain ⟨k,ts⟩ := p
        have h3 := h1.2
        simp only [Option.toList,List.all_cons,List.all_nil,Bool.and_true] at h3
        unfold lkOK at h3
        simp only [vaT,Option.map_some,vaO]
        cases ho : ops[k]? with
        | none => simp only [ho] at h3;cases h3
        | some o =>
          simp only [ho,beq_iff_eq] at h3
          simp only [va1T,va1,h3]
def planT (l : List Oper) (pl : List PlT) : Bool := planAll l (pl.map PlT.pl) && pl.all (PlT.lk l.toArray)
theorem SX.planT {c : Cfg} {id : Nat} {l : List Oper} {K : Exit → Cfg → Prop} (pl : List PlT) (hm : X.P.follows .mixedOrders = true) (hB : Sx.planT l pl = true)
    (h : vplT X l.toArray pl c (K .normal)) : SX X (.region id l.toArray true) c K := by
  simp only [Sx.planT,Bool.and_eq_true] at hB
  rw [vplT_eq hB.2] at h
  exact SX.plan _ hm hB.1 h
end
theorem g_nxq_s : ∀ (X : Ctx) (t : Tmp) (c : Cfg) (N : Cfg → Prop) (s : SV),nxq X (some t) c N s = (t < X.nt ∧ N { c with env := (t,s) :: c.env }) := by intros;simp [nxq,dOk,Cfg.put]
theorem g_nxq_n : ∀ (X : Ctx) (c : Cfg) (N : Cfg → Prop) (s : SV),nxq X none c N s = N c := by intros;simp [nxq,dOk,Cfg.put]
theorem g_dOk_s : ∀ (t n : Nat),(dOk (some t) n = true) = (t < n) := by intros;simp [dOk]
theorem g_vqG_u : ∀ (X : Ctx) (ops : Array Oper) (o : Oper) (pol : Bool) (c : Cfg) (N : SV → Prop),vqG X ops o pol (some (.one (.c (.v (.tuple #[]))))) c N = N (vv undef) := by intros;simp [vqG]
theorem sy0 : (∀ (X : Ctx) (ops : Array Oper) (c : Cfg) (N : Cfg → Prop),vplT X ops [] c N = N c) ∧ (∀ (X : Ctx) (ops : Array Oper) (i j : Nat) (r : List PlT) (c : Cfg) (N : Cfg → Prop),vplT X ops (.b i j :: r) c N = (vs1 X ops (ops[i]?) c (fun c' => vs1 X ops (ops[j]?) c' (fun c' => vplT X ops r c' N)) ∧ vs1 X ops (ops[j]?) c (fun c' => vs1 X ops (ops[i]?) c' (fun c' => vplT X ops r c' N)))) ∧ (∀ (X : Ctx) (ops : Array Oper) (i : Nat) (r : List PlT) (c : Cfg) (N : Cfg → Prop),vplT X ops (.s i :: r) c N = vs1 X ops (ops[i]?) c (fun c' => vplT X ops r c' N)) ∧ (∀ (X : Ctx) (ops : Array Oper) (i : Nat) (r : List PlT) (c : Cfg) (N : Cfg → Prop),vplT X ops (.f i :: r) c N = vf1 X (ops[i]?) c (fun c' => vplT X ops r c' N)) ∧ (∀ (X : Ctx) (ops : Array Oper) (is : List (Nat × List Tmp)) (al : Option (Nat × List Tmp)) (r : List PlT) (c : Cfg) (N : Cfg → Prop),vplT X ops (.q is al :: r) c N = vqL X ops is c (fun c' => vaT X ops al c' (fun c' => vplT X ops r c' N))) ∧ (∀ (X : Ctx) (ops : Array Oper) (o : Oper) (c : Cfg) (N : Cfg → Prop),vs1 X ops (some o) c N = vc X ops [o] c N) ∧ (∀ (X : Ctx) (o : Oper) (c : Cfg) (N : Cfg → Prop),vf1 X (some o) c N = (o.guard.isNone = true ∧ vcV X o c (nxq X o.dst c N))) ∧ (∀ (X : Ctx) (t : Tmp) (c : Cfg) (N : Cfg → Prop) (s : SV),nxq X (some t) c N s = (t < X.nt ∧ N { c with env := (t,s) :: c.env })) ∧ (∀ (X : Ctx) (c : Cfg) (N : Cfg → Prop) (s : SV),nxq X none c N s = N c) ∧ (∀ (t n : Nat),(dOk (some t) n = true) = (t < n)) ∧ (∀ (c : Cfg) (t : Tmp) (s : SV),c.put (some t) s = { c with env := (t,s) :: c.env }) ∧ (∀ (X : Ctx) (ops : Array Oper) (c : Cfg) (N : Cfg → Prop),vqL X ops [] c N = N c) ∧ (∀ (X : Ctx) (ops : Array Oper) (i : Nat) (ts : List Tmp) (is : List (Nat × List Tmp)) (c : Cfg) (N : Cfg → Prop),vqL X ops ((i,ts) :: is) c N = vq1T X ops (ops[i]?) ts c (fun c' => vqL X ops is c' N)) ∧ (∀ (X : Ctx) (ops : Array Oper) (o : Oper) (ts : List Tmp) (c : Cfg) (N : Cfg → Prop),vq1T X ops (some o) ts c N = vqO X ops o o.guard (c.only ts) (nxq X o.dst c N)) ∧ (∀ (X : Ctx) (ops : Array Oper) (o : Oper) (c : Cfg) (N : SV → Prop),vqO X ops o none c N = vcQ X o c N) ∧ (∀ (X : Ctx) (ops : Array Oper) (o : Oper) (j : Nat) (pol : Bool) (c : Cfg) (N : SV → Prop),vqO X ops o (some (j,pol)) c N = vqT X ops o pol ((ops[j]?).bind (·.dst)) c N) ∧ (∀ (X : Ctx) (ops : Array Oper) (o : Oper) (pol : Bool) (t : Tmp) (c : Cfg) (N : SV → Prop),vqT X ops o pol (some t) c N = vqG X ops o pol (c.env.lookup t) c N) ∧ (∀ (X : Ctx) (ops : Array Oper) (o : Oper) (pol b : Bool) (c : Cfg) (N : SV → Prop),vqG X ops o pol (some (.one (.c (.v (.bool b))))) c N = gif b pol (vcQ X { o with guard := none } c N) (N (vv undef))) ∧ (∀ (X : Ctx) (ops : Array Oper) (o : Oper) (pol : Bool) (c : Cfg) (N : SV → Prop),vqG X ops o pol (some (.one (.c (.v (.tuple #[]))))) c N = N (vv undef)) ∧ (∀ (c : Cfg) (ts : List Tmp),c.only ts = ⟨ts.filterMap (getSome c),c.loc⟩) ∧ (∀ (c : Cfg) (t : Tmp),getSome c t = (c.env.lookup t).map (t,·)) ∧ (∀ (X : Ctx) (ops : Array Oper) (c : Cfg) (N : Cfg → Prop),vaT X ops none c N = N c) ∧ (∀ (X : Ctx) (ops : Array Oper) (k : Nat) (ts : List Tmp) (c : Cfg) (N : Cfg → Prop),vaT X ops (some (k,ts)) c N = va1T X (ops[k]?) ts c N) ∧ (∀ (X : Ctx) (o : Oper) (ts : List Tmp) (c : Cfg) (N : Cfg → Prop),va1T X (some o) ts c N = (o.guard.isNone = true ∧ vcA X o (c.only ts) (fun l t s => dOk o.dst X.nt = true ∧ N (({ c with loc := c.loc ++ [.cells l t] } : Cfg).put o.dst s)))) ∧ (∀ (X : Ctx) (d : Option Tmp) (ty : TypeId) (pos : String) (af : Array Edge) (g : Option (Nat × Bool)) (c : Cfg) (N : SV → Prop) (x : Operand),vcQ X ⟨d,.move x,ty,pos,af,g⟩ c N = N (c.ev x)) ∧ (∀ (X : Ctx) (d : Option Tmp) (ty : TypeId) (pos : String) (af : Array Edge) (g : Option (Nat × Bool)) (c : Cfg) (N : SV → Prop) (x : Operand),vcQ X ⟨d,.assign x,ty,pos,af,g⟩ c N = N (c.ev x)) ∧ (∀ (X : Ctx) (d : Option Tmp) (ty : TypeId) (pos : String) (af : Array Edge) (g : Option (Nat × Bool)) (c : Cfg) (N : SV → Prop) (x : Operand) (i : Nat),vcQ X ⟨d,.extract x i,ty,pos,af,g⟩ c N = qExt (c.ev x) i N) ∧ (∀ (X : Ctx) (d : Option Tmp) (ty : TypeId) (pos : String) (af : Array Edge) (g : Option (Nat × Bool)) (c : Cfg) (N : SV → Prop) (t : TypeId) (x : Operand) (f : Nat),vcQ X ⟨d,.fieldAddr t x f,ty,pos,af,g⟩ c N = qField (c.ev x) (fieldOff X.P t f) N) ∧ (∀ (X : Ctx) (d : Option Tmp) (ty : TypeId) (pos : String) (af : Array Edge) (g : Option (Nat × Bool)) (c : Cfg) (N : SV → Prop) (x : Operand),vcQ X ⟨d,.nilCheck x,ty,pos,af,g⟩ c N = qNil (c.ev x) N) ∧ (∀ (X : Ctx) (d : Option Tmp) (ty : TypeId) (pos : String) (af : Array Edge) (g : Option (Nat × Bool)) (c : Cfg) (N : SV → Prop) (x : Operand),vcV X ⟨d,.move x,ty,pos,af,g⟩ c N = N (c.ev x)) ∧ (∀ (X : Ctx) (d : Option Tmp) (ty : TypeId) (pos : String) (af : Array Edge) (g : Option (Nat × Bool)) (c : Cfg) (N : SV → Prop) (x : Operand),vcV X ⟨d,.assign x,ty,pos,af,g⟩ c N = N (c.ev x)) ∧ (∀ (X : Ctx) (d : Option Tmp) (ty : TypeId) (pos : String) (af : Array Edge) (g : Option (Nat × Bool)) (c : Cfg) (N : SV → Prop) (x : Operand) (i : Nat),vcV X ⟨d,.extract x i,ty,pos,af,g⟩ c N = qExt (c.ev x) i N) ∧ (∀ (X : Ctx) (d : Option Tmp) (ty : TypeId) (pos : String) (af : Array Edge) (g : Option (Nat × Bool)) (c : Cfg) (N : SV → Prop) (t : TypeId) (x : Operand) (f : Nat),vcV X ⟨d,.fieldAddr t x f,ty,pos,af,g⟩ c N = qField (c.ev x) (fieldOff X.P t f) N) ∧ (∀ (X : Ctx) (d : Option Tmp) (ty : TypeId) (pos : String) (af : Array Edge) (g : Option (Nat × Bool)) (c : Cfg) (N : SV → Prop) (x : Operand),vcV X ⟨d,.nilCheck x,ty,pos,af,g⟩ c N = qNil (c.ev x) N) ∧ (∀ (X : Ctx) (d : Option Tmp) (ty : TypeId) (pos : String) (af : Array Edge) (g : Option (Nat × Bool)) (c : Cfg) (N : SV → Prop) (t : TypeId) (x : Operand),vcQ X ⟨d,.load t x,ty,pos,af,g⟩ c N = vcLoad X t (c.ev x) c N (vcLoad2 X c t (c.ev x) N False)) ∧ (∀ (X : Ctx) (d : Option Tmp) (ty : TypeId) (pos : String) (af : Array Edge) (g : Option (Nat × Bool)) (c : Cfg) (N : SV → Prop) (t : TypeId) (x : Operand) (lo hi : Option Operand),vcQ X ⟨d,.slice t x lo hi none,ty,pos,af,g⟩ c N = slcK c (c.ev x) (isStrT X.P t) (elemSz X.P t) (optI c lo) (optI c hi) N) ∧ (∀ (X : Ctx) (d : Option Tmp) (ty : TypeId) (pos : String) (af : Array Edge) (g : Option (Nat × Bool)) (c : Cfg) (N : SV → Prop) (t : TypeId) (x i : Operand),vcQ X ⟨d,.index t x i,ty,pos,af,g⟩ c N = idxK (c.ev x) (c.ev i) (isStrT X.P t) (fun r => N (vv r))) ∧ (∀ (X : Ctx) (d : Option Tmp) (ty : TypeId) (pos : String) (af : Array Edge) (g : Option (Nat × Bool)) (c : Cfg) (N : SV → Prop) (t : TypeId) (x i : Operand),vcQ X ⟨d,.indexAddr t x i,ty,pos,af,g⟩ c N = ixK c (c.ev x) (c.ev i) (elemSz X.P t) (arrInf X.P t) N) ∧ (∀ (X : Ctx) (d : Option Tmp) (ty : TypeId) (pos : String) (af : Array Edge) (g : Option (Nat × Bool)) (c : Cfg) (N : SV → Prop) (op : BinOp) (t t2 : TypeId) (x y : Operand),vcQ X ⟨d,.binOp op t x y t2,ty,pos,af,g⟩ c N = qBin X.P t op (c.ev x).val? (c.ev y).val? (fun r => N (vv r))) ∧ (∀ (X : Ctx) (d : Option Tmp) (ty : TypeId) (pos : String) (af : Array Edge) (g : Option (Nat × Bool)) (c : Cfg) (N : SV → Prop) (op : UnOp) (t : TypeId) (x : Operand),vcQ X ⟨d,.unOp op t x,ty,pos,af,g⟩ c N = qUn op (c.ev x).val? (fun r => N (vv r))) ∧ (∀ (X : Ctx) (d : Option Tmp) (ty : TypeId) (pos : String) (af : Array Edge) (g : Option (Nat × Bool)) (c : Cfg) (N : SV → Prop) (s t : TypeId) (x : Operand),vcQ X ⟨d,.convert s t x,ty,pos,af,g⟩ c N = qConv (c.ev x) (X.P.underlying s) (X.P.underlying t) (fun r => N (vv r))) ∧ (∀ (X : Ctx) (d : Option Tmp) (ty : TypeId) (pos : String) (af : Array Edge) (g : Option (Nat × Bool)) (c : Cfg) (N : SV → Prop) (k x y : Operand),vcQ X ⟨d,.pick k x y,ty,pos,af,g⟩ c N = qPick (c.ev k) (c.ev x) (c.ev y) N) ∧ (∀ (X : Ctx) (d : Option Tmp) (ty : TypeId) (pos : String) (af : Array Edge) (g : Option (Nat × Bool)) (c : Cfg) (N : SV → Prop) (t : TypeId) (parts : Array (Nat × Operand)),vcQ X ⟨d,.build t parts,ty,pos,af,g⟩ c N = qBuild (fieldsOf X.P t) (zeroCells X.P t) (partsS c parts.toList) N) ∧ (∀ (X : Ctx) (d : Option Tmp) (ty : TypeId) (pos : String) (af : Array Edge) (g : Option (Nat × Bool)) (c : Cfg) (N : SV → Prop) (x : Operand) (t : TypeId),vcQ X ⟨d,.call { callee := .builtin .len,args := #[x],argTypes := #[t] },ty,pos,af,g⟩ c N = lenB c (c.ev x) (X.P.underlying t) (fun r => N (vv r))) ∧ (∀ (X : Ctx) (d : Option Tmp) (ty : TypeId) (pos : String) (af : Array Edge) (g : Option (Nat × Bool)) (c : Cfg) (N : SV → Prop) (x y : Operand) (ts : Array TypeId),vcQ X ⟨d,.call { callee := .builtin .min,args := #[x,y],argTypes := ts },ty,pos,af,g⟩ c N = minK (c.ev x) (c.ev y) (fun r => N (vv r))) ∧ (∀ (X : Ctx) (d : Option Tmp) (ty : TypeId) (pos : String) (af : Array Edge) (g : Option (Nat × Bool)) (c : Cfg) (N : SV → Prop) (fo : Operand) (xs : Array Operand) (ts : Array TypeId),vcQ X ⟨d,.call { callee := .value fo,args := xs,argTypes := ts },ty,pos,af,g⟩ c N = (g.isNone = true ∧ qCall X c (c.ev fo) (xs.toList.map c.ev) N)) ∧ (∀ (X : Ctx) (c : Cfg) (f : FuncId) (fst cap : List SP) (args : List SV) (N : SV → Prop),qCall X c (.one (.c (.clo f fst cap))) args N = (calleeOk X.P f = true ∧ CallQ X c f (fst.map SP.sv ++ args ++ cap.map SP.sv) N)) ∧ (∀ (X : Ctx) (d : Option Tmp) (ty : TypeId) (pos : String) (af : Array Edge) (g : Option (Nat × Bool)) (c : Cfg) (N : SV → Prop) (x : Operand) (t : TypeId),vcQ X ⟨d,.call { callee := .builtin .unsafeSliceData,args := #[x],argTypes := #[t] },ty,pos,af,g⟩ c N = qSd c (c.ev x) N) ∧ (∀ (c : Cfg) (i : Nat) (N : SV → Prop),qSd c (.one (.c (.row i))) N = qSdR (c.loc[i]?) i N) ∧ (∀ (e sz n : Nat) (xs : List Value) (i : Nat) (N : SV → Prop),qSdR (some (.row e sz n xs)) i N = (0 < n ∧ N (.one (.c (.ri i 0))))) ∧ (∀ (l : List S1) (i : Nat) (N : SV → Prop),qExt (.tup l) i N = (match l[i]? with | some s => N (.one s) | none => False)) ∧ (∀ (i off o : Nat) (N : SV → Prop),qField (.one (.c (.loc i off))) (some o) N = N (.one (.c (.loc i (off + o))))) ∧ (∀ (i k o : Nat) (N : SV → Prop),qField (.one (.c (.ri i k))) (some o) N = N (.one (.c (.ri i (k + o))))) ∧ (∀ (ad : Addr) (o : Nat) (N : SV → Prop),qField (.one (.c (.v (.pointer (some ad))))) (some o) N = N (vv (.pointer (some (ad.add o))))) ∧ (∀ (i off : Nat) (N : SV → Prop),qNil (.one (.c (.loc i off))) N = N (.one (.c (.loc i off)))) ∧ (∀ (i k : Nat) (N : SV → Prop),qNil (.one (.c (.ri i k))) N = N (.one (.c (.ri i k)))) ∧ (∀ (a : Addr) (N : SV → Prop),qNil (.one (.c (.v (.pointer (some a))))) N = N (vv (.pointer (some a)))) ∧ (∀ (P : Program) (t : TypeId) (op : BinOp) (x y : Value) (N : Value → Prop),qBin P t op (some x) (some y) N = binK P t op x y N False) ∧ (∀ (op : UnOp) (x : Value) (N : Value → Prop),qUn op (some x) N = unK op x N) ∧ (∀ (k k1 k' : IntKind) (n : Int) (N : Value → Prop),qConv (.one (.c (.v (.int k n)))) (some (.int k1)) (some (.int k')) N = (k = k1 ∧ N (.int k' (k'.wrap n)))) := ⟨by intros;rfl,by intros;rfl,by intros;rfl,by intros;rfl,by intros;rfl,by intros;rfl,by intros;rfl,g_nxq_s,g_nxq_n,g_dOk_s,by intros;rfl,by intros;rfl,by intros;rfl,by intros;rfl,by intros;rfl,by intros;rfl,by intros;rfl,by intros;rfl,g_vqG_u,by intros;rfl,by intros;rfl,by intros;rfl,by intros;rfl,by intros;rfl,by intros;rfl,by intros;rfl,by intros;rfl,by intros;rfl,by intros;rfl,by intros;rfl,by intros;rfl,by intros;rfl,by intros;rfl,by intros;rfl,by intros;rfl,by intros;rfl,by intros;rfl,by intros;rfl,by intros;rfl,by intros;rfl,by intros;rfl,by intros;rfl,by intros;rfl,by intros;rfl,by intros;rfl,by intros;rfl,by intros;rfl,by intros;rfl,by intros;rfl,by intros;rfl,by intros;rfl,by intros;rfl,by intros;rfl,by intros;rfl,by intros;rfl,by intros;rfl,by intros;rfl,by intros;rfl,by intros;rfl,by intros;rfl⟩
theorem sy1 : (∀ (b : Bool) (x y : SV) (N : SV → Prop),qPick (.one (.c (.v (.bool b)))) x y N = N (if b = true then x else y)) ∧ (∀ (pl : List (Nat × Nat)) (zs : List Value) (ps : List (Nat × S1)) (N : SV → Prop),qBuild (some pl) (some zs) (some ps) N = (partsOne ps ∧ qBuild1 (fillS pl (zs.map .v) ps) N)) ∧ (∀ (out : List SC) (N : SV → Prop),qBuild1 (some out) N = N (.one (.agg out))) ∧ (∀ (X : Ctx) (d : Option Tmp) (ty : TypeId) (pos : String) (af : Array Edge) (g : Option (Nat × Bool)) (c : Cfg) (N : List SC → TypeId → SV → Prop) (t : TypeId),vcA X ⟨d,.alloc t,ty,pos,af,g⟩ c N = alB t (zeroCells X.P t) N c.loc.length) ∧ (∀ (X : Ctx) (d : Option Tmp) (ty : TypeId) (pos : String) (af : Array Edge) (g : Option (Nat × Bool)) (c : Cfg) (N : List SC → TypeId → SV → Prop) (t : TypeId) (x : Operand),vcA X ⟨d,.box t x,ty,pos,af,g⟩ c N = bxB t (c.ev x) N c.loc.length) ∧ (∀ (X : Ctx) (d : Option Tmp) (ty : TypeId) (pos : String) (af : Array Edge) (g : Option (Nat × Bool)) (c : Cfg) (N : List SC → TypeId → SV → Prop) (t : TypeId) (k : Nat) (parts : Array (Nat × Operand)),vcA X ⟨d,.buildSlice t k parts,ty,pos,af,g⟩ c N = bsB X k (elemSz X.P t) (partsS c parts.toList) N c.loc.length) ∧ (∀ (t : TypeId) (zs : List Value) (N : List SC → TypeId → SV → Prop) (n : Nat),alB t (some zs) N n = N (zs.map .v) t (.one (.c (.loc n 0)))) ∧ (∀ (t : TypeId) (s : S1) (N : List SC → TypeId → SV → Prop) (n : Nat),bxB t (.one s) N n = (s.One ∧ N s.cells t (.one (.c (.loc n 0))))) ∧ (∀ (X : Ctx) (k e sz : Nat) (ps : List (Nat × S1)) (N : List SC → TypeId → SV → Prop) (n : Nat),bsB X k (some (e,sz)) (some ps) N n = bs1B k e sz ps (zeroCells X.P e) N n) ∧ (∀ (k e sz : Nat) (ps : List (Nat × S1)) (zs : List Value) (N : List SC → TypeId → SV → Prop) (n : Nat),bs1B k e sz ps (some zs) N n = (zs.length = sz ∧ k * sz ≤ 16777216 ∧ partsOne ps ∧ bs2B k e (fillS (placesS k sz) (zerosS zs k sz) ps) N n)) ∧ (∀ (k e : Nat) (out : List SC) (N : List SC → TypeId → SV → Prop) (n : Nat),bs2B k e (some out) N n = N out e (.one (.c (.sl n 0 k k)))) ∧ (∀ (X : Ctx) (d : Option Tmp) (ty : TypeId) (pos : String) (af : Array Edge) (g : Option (Nat × Bool)) (c : Cfg) (N : SV → Prop) (t : TypeId) (x : Operand) (f : Nat),vcQ X ⟨d,.field t x f,ty,pos,af,g⟩ c N = fldK (c.ev x) (fldInf X.P t f) N) ∧ (∀ (X : Ctx) (d : Option Tmp) (ty : TypeId) (pos : String) (af : Array Edge) (g : Option (Nat × Bool)) (c : Cfg) (N : Cfg → Prop) (t : TypeId) (x : Operand) (f : Nat),vcOp X ⟨d,.field t x f,ty,pos,af,g⟩ c N = fldK (c.ev x) (fldInf X.P t f) (fun s => nxt X d N c s)) ∧ (∀ (l : List SC) (o n : Nat) (b : Bool) (N : SV → Prop),fldK (.one (.agg l)) (some (o,b,n)) N = (match fldS (.one (.agg l)) (some (o,b,n)) with | some r => N r | none => False)) ∧ (∀ (l : List SC) (o n : Nat),fldS (.one (.agg l)) (some (o,false,n)) = (l[o]?).map fun s => .one (.c s)) ∧ (∀ (l : List SC) (o n : Nat),fldS (.one (.agg l)) (some (o,true,n)) = some (.one (.agg ((l.drop o).take n)))) ∧ (∀ (X : Ctx) (d : Option Tmp) (ty : TypeId) (pos : String) (af : Array Edge) (g : Option (Nat × Bool)) (c : Cfg) (N : SV → Prop) (t : TypeId) (m k : Operand) (ok : Bool),vcQ X ⟨d,.lookup t m k ok,ty,pos,af,g⟩ c N = lkK c (c.ev m) (c.ev k) (mapInf X.P t) ok N) := ⟨by intros;rfl,by intros;rfl,by intros;rfl,by intros;rfl,by intros;rfl,by intros;rfl,by intros;rfl,by intros;rfl,by intros;rfl,by intros;rfl,by intros;rfl,by intros;rfl,by intros;rfl,by intros;rfl,by intros;rfl,by intros;rfl,by intros;rfl⟩
theorem bif2.mk {b : Bool} {A B : Prop} (h1 : b = true → A) (h2 : b = false → B) : bif2 b A B := ⟨h1,h2⟩
structure Done (P : Prop) : Prop where
  out : P
theorem and_mk {A B : Prop} (h1 : A) (h2 : B) : A ∧ B := ⟨h1,h2⟩
theorem GDs : (∀ (α : Type) (d a : α) (l : List α),(a :: l).getD 0 d = a) ∧ (∀ (α : Type) (d a : α) (n : Nat) (l : List α),(a :: l).getD (n + 1) d = l.getD n d) ∧ (∀ p : Prop,(p ∨ False) = p) ∧ (∀ p : Prop,(False ∨ p) = p) ∧ (∀ p : Prop,(p ∨ p) = p) ∧ (∀ p : Prop,(p ∨ True) = True) ∧ (∀ p : Prop,(True ∨ p) = True) ∧ (∀ h : Decidable True,@decide True h = true) := by
  refine ⟨fun _ _ _ _ => rfl,fun _ _ _ _ _ => rfl,fun _ => or_false _,fun _ => false_or _,fun _ => or_self _,fun _ => or_true _,fun _ => true_or _,decide_true⟩
theorem HBs : (∀ (p : Prop) [Decidable p],(decide p = true) = p) ∧ (∀ (p : Prop) [Decidable p],(decide p = false) ↔ ¬ p) ∧ (∀ (α : Type) [BEq α] [LawfulBEq α] (a b : α),((a == b) = true) ↔ a = b) ∧ (∀ (α : Type) [BEq α] [LawfulBEq α] (a b : α),((a == b) = false) ↔ a ≠ b) ∧ (∀ (α : Type) [BEq α] [LawfulBEq α] (a b : α),((a != b) = true) ↔ a ≠ b) ∧ (∀ a b : Bool,((a && b) = true) = (a = true ∧ b = true)) ∧ (∀ a b : Bool,((a || b) = true) = (a = true ∨ b = true)) ∧ (∀ b : Bool,((!b) = true) ↔ b = false) ∧ (∀ b : Bool,((!b) = false) ↔ b = true) ∧ (∀ a b : Bool,((a && b) = false) ↔ (a = false ∨ b = false)) ∧ (∀ a b : Bool,((a || b) = false) ↔ (a = false ∧ b = false)) ∧ (∀ a b : Int,(¬ a < b) ↔ b ≤ a) ∧ (∀ a b : Int,(¬ a ≤ b) ↔ b < a) := by
  refine ⟨fun _ _ => decide_eq_true_eq,fun _ _ => decide_eq_false_iff_not,fun _ _ _ _ _ => beq_iff_eq,fun _ _ _ _ _ => beq_eq_false_iff_ne,fun _ _ _ _ _ => bne_iff_ne,fun _ _ => Bool.and_eq_true _ _,fun _ _ => Bool.or_eq_true _ _,fun b => by cases b <;> simp,fun b => by cases b <;> simp,fun a b => by cases a <;> cases b <;> simp,fun a b => by cases a <;> cases b <;> simp,fun _ _ => Int.not_lt,fun _ _ => Int.not_le⟩
theorem LBs : (∀ (α : Type) (a b : List α),(a ++ b).length = a.length + b.length) ∧ (∀ (α : Type) (a : α) (l : List α),(a :: l).length = l.length + 1) ∧ (∀ α : Type,([] : List α).length = 0) ∧ (∀ l : List UInt8,(B l).size = l.length) := ⟨fun _ _ _ => List.length_append,fun _ _ _ => rfl,fun _ => rfl,B_size⟩
theorem bytesLess_irrefl : ∀ a : List UInt8,Op.bytesLess a a = false
  | [] => rfl
  | a :: l => by simp [Op.bytesLess,bytesLess_irrefl l]
theorem bytesLess_total : ∀ {a b : List UInt8},Op.bytesLess a b = false → Op.bytesLess b a = false → a = b
  | [],[],_,_ => rfl
  | [],_ :: _,h,_ => by simp [Op.bytesLess] at h
  | _ :: _,[],_,h => by simp [Op.bytesLess] at h
  | a :: x,b :: y,h,h2 => by
    simp only [Op.bytesLess,Bool.or_eq_false_iff,decide_eq_false_iff_not,Bool.and_eq_false_iff,beq_eq_false_iff_ne] at h h2
    have hab : a = b := by
      rcases UInt8.lt_or_lt_of_ne (a := a) (b := b) with hh
      by_cases e : a = b
      · exact e
      · rcases hh e with h3 | h3
        · exact absurd h3 h.1
        · exact absurd h3 h2.1
    subst hab
    have h3 := h.2.resolve_left (fun e => e rfl)
    have h4 := h2.2.resolve_left (fun e => e rfl)
    rw [bytesLess_total h3 h4]
theorem wI64 {x : Int} (h0 : -9223372036854775808 ≤ x) (h1 : x < 9223372036854775808) : IntKind.i64.wrap x = x := by
  rw [IntKind.wrap_i64,Int.emod_eq_of_lt (by omega) (by omega)];omega
theorem wU64 {x : Int} (h0 : 0 ≤ x) (h1 : x < 18446744073709551616) : IntKind.u64.wrap x = x := by
  rw [IntKind.wrap_u64,Int.emod_eq_of_lt h0 h1]
def cmpI (a b : Int) : Int := if a < b then -1 else if b < a then 1 else 0
def cmpS (a b : List UInt8) : Int := if Op.bytesLess a b = true then -1 else if Op.bytesLess b a = true then 1 else 0
theorem cmpI_eq {a b : Int} : cmpI a b = 0 ↔ a = b := by unfold cmpI;split <;> (try split) <;> omega
theorem cmpS_eq {a b : List UInt8} : cmpS a b = 0 ↔ a = b := by
  unfold cmpS
  constructor
  · intro h
    split at h
    · omega
    · split at h
      · omega
      · rename_i h1 h2;exact bytesLess_total (by simpa using h1) (by simpa using h2)
  · rintro rfl;simp [bytesLess_irrefl]
def SXr (X : Ctx) (body : Code) : Nat → Cfg → (Exit → Cfg → Prop) → Prop
  | 0,_,_ => False
  | n + 1,c,K => SX X body c (nx (fun c' => SXr X body n c' K) K)
theorem SXr.rounds {X : Ctx} {body : Code} {K : Exit → Cfg → Prop} : ∀ (n : Nat) {c : Cfg},SXr X body n c K → ∀ ρ σ a w,Rel X c ρ σ a w → Code.rounds X.P body (Post X K) n a w
  | 0,_,h,_,_,_,_,_ => h.elim
  | n + 1,c,h,ρ,σ,a,w,hr => by
    refine Go.wp_mono (h ρ σ a w hr) ?_
    rintro e a' w' ⟨c',ρ',σ',hr',hk⟩
    cases e with
    | normal => exact SXr.rounds n hk _ _ _ _ hr'
    | exit id => exact ⟨c',ρ',σ',hr',hk⟩
    | goto l => exact ⟨c',ρ',σ',hr',hk⟩
    | ret => exact ⟨c',ρ',σ',hr',hk⟩
    | panic ch => exact ⟨c',ρ',σ',hr',hk⟩
    | outgrown => exact ⟨c',ρ',σ',hr',hk⟩
theorem SX.loopN {X : Ctx} {body : Code} {c : Cfg} {K : Exit → Cfg → Prop} (n : Nat) (h : SXr X body n c K) : SX X (.loop body) c K := fun ρ σ a w hr => wp_loop_rounds n (SXr.rounds n h ρ σ a w hr)
theorem SXr.stepK {X : Ctx} {body : Code} {n : Nat} {c : Cfg} {K : Exit → Cfg → Prop} (h : ∀ N : Cfg → Prop,(∀ c',SXr X body n c' K → N c') → SX X body c (nx N K)) : SXr X body (n + 1) c K := h _ fun _ h => h
def finP (o : Option (List S1)) (M : Cfg → SV → Prop) (c : Cfg) : Prop := match o with | some ss => M c (retS ss) | none => False
theorem finP_s : ∀ (ss : List S1) (M : Cfg → SV → Prop) (c : Cfg),finP (some ss) M c = M c (retS ss) := by intros;rfl
theorem finP_sp {X : Ctx} {rs : List ResultVar} {M : Cfg → SV → Prop} {c : Cfg} (h : finP (resL X c rs) M c) : FinM X rs M c := by
  unfold finP at h
  split at h
  · rename_i ss hs;exact FinM.all hs h
  · exact h.elim
theorem FinI.ret3 {X : Ctx} {rs : List ResultVar} {M : Cfg → SV → Prop} {c : Cfg} (h : finP (resL X c rs) M c) : FinI X rs M .ret c := finP_sp h
theorem FinI.nrm3 {X : Ctx} {rs : List ResultVar} {M : Cfg → SV → Prop} {c : Cfg} (h : finP (resL X c rs) M c) : FinI X rs M .normal c := finP_sp h
theorem Ctr.less {P : Program} {G : List (Addr × Value)} {f : FuncId} {os : List LO} {args : List SV} {R : List LO → SV → Prop}
    (h : Ctr P G f os args (fun os' r => ∃ sel os2 s2,LeR os.length sel ⟨[],os2⟩ ⟨[],os'⟩ ∧ r = s2.ren sel ∧ s2.okB sel.length = true ∧ R os2 s2)) : Ctr P G f os args R := by
  intro X hP hG N hN ρ σ a w hr vals ha
  have hb : X.base.length ≤ os.length := by
    have hl : σ.length = os.length := hr.lenS
    rcases Nat.lt_or_ge os.length X.base.length with h0 | h0
    · have := hr.pin os.length X.base[os.length] (by simp [h0])
      rw [List.getElem?_eq_none (by omega)] at this;cases this
    · exact h0
  refine (h X hP hG (fun c s => ∃ sel os2 s2,LeR os.length sel ⟨[],os2⟩ c ∧ s = s2.ren sel ∧ s2.okB sel.length = true ∧ R os2 s2) (fun os' s hR => hR) ρ σ a w hr vals ha).mono ?_
  rintro e w' ⟨v,c',ρ',σ',s,rfl,hr',hd,sel,os2,s2,hl,rfl,hok,hR⟩
  exact ⟨v,⟨[],os2⟩,_,_,s2,rfl,Rel.leR ⟨fun i hi => hl.pin i (by omega),hl.env,hl.len,hl.loc,hl.nd,hl.lt,hl.okE,hl.okL⟩ hr',DV.ren hok hd,hN _ _ hR⟩
section
variable {X : Ctx} {c : Cfg} {N : Cfg → Prop} {d : Option Tmp} {ty : TypeId} {pos : String} {af : Array Edge} {g : Option (Nat × Bool)}
theorem VO.ptrNil {t t2 e : TypeId} {x y : Operand} {i off : Nat} (hx : c.ev x = .one (.c (.loc i off))) (hy : c.ev y = vv (.pointer none)) (ht : X.P.underlying t = some (.pointer e)) (h : nxt X d N c (vv (.bool false))) :
    VO X ⟨d,.binOp .eql t x y t2,ty,pos,af,g⟩ c N := .of_pure fun ρ σ a w hr => by
  have e1 := hr.ev x
  rw [hx] at e1
  obtain ⟨b,hb,e1⟩ := e1
  have e2 := hr.ev y
  rw [hy] at e2
  have e2 : a.eval y = .pointer none := e2
  exact ⟨.bool false,vv (.bool false),by simp [execOp,e1,e2,eqGuard,Go.binOp,eq_ptr_nil w ht],rfl,h.1,h.2⟩
theorem VO.ptrSame {t t2 e n : Nat} {x y : Operand} {i off : Nat} (hx : c.ev x = .one (.c (.loc i off))) (hy : c.ev y = .one (.c (.loc i off))) (ht : X.P.underlying t = some (.pointer e)) (hz : szOf X.P e = some n) (h : nxt X d N c (vv (.bool false))) :
    VO X ⟨d,.binOp .neq t x y t2,ty,pos,af,g⟩ c N := .of_pure fun ρ σ a w hr => by
  have e1 := hr.ev x
  rw [hx] at e1
  obtain ⟨b,hb,e1⟩ := e1
  have e2 := hr.ev y
  rw [hy] at e2
  obtain ⟨b',hb',e2⟩ := e2
  rw [hb] at hb'
  cases hb'
  obtain ⟨j,hj,_⟩ := info_of_sz hz
  exact ⟨.bool false,vv (.bool false),by simp [execOp,e1,e2,eqGuard,Lib.run_neq_ptr_same w _ ht hj,Result.andThen],rfl,h.1,h.2⟩
theorem VO.toUnsafe {src dst t t' n : Nat} {x : Operand} {i off : Nat} {l : List SC} (hx : c.ev x = .one (.c (.loc i off))) (hs : X.P.underlying src = some (.pointer t)) (hd : X.P.underlying dst = some .unsafePointer) (hz : szOf X.P t = some (n + 1))
    (hi : c.loc[i]? = some (.cells l t')) (ho : off < l.length) (h : nxt X d N c (.one (.c (.loc i off)))) : VO X ⟨d,.convert src dst x,ty,pos,af,g⟩ c N := .of_pure fun ρ σ a w hr => by
  have e1 := hr.ev x
  rw [hx] at e1
  obtain ⟨b,hb,e1⟩ := e1
  obtain ⟨cs,hw,ha,_⟩ := hr.getLoc hi hb
  obtain ⟨j,hj,hjs⟩ := info_of_sz hz
  have hsh : w.shape? b = some (t',cs.length) := by simp [World.shape?,hw]
  exact ⟨ptr b off,.one (.c (.loc i off)),by simp only [execOp,e1,Sem.run_bind,Lib.run_to_unsafe w ⟨b,off,none⟩ hs hd hj (by omega) hsh (by have := ha.length;simp;omega),Result.andThen,Sem.run_pure],⟨b,hb,rfl⟩,h.1,h.2⟩
theorem VO.fromUnsafe {src dst u t' n : Nat} {x : Operand} {i off : Nat} {l : List SC} (hx : c.ev x = .one (.c (.loc i off))) (hs : X.P.underlying src = some .unsafePointer) (hd : X.P.underlying dst = some (.pointer u)) (hz : szOf X.P u = some n)
    (hi : c.loc[i]? = some (.cells l t')) (hl : liesAt X.P X.P.depth t' (l.length / X.P.cellsOf t') off u 1 = true) (h : nxt X d N c (.one (.c (.loc i off)))) : VO X ⟨d,.convert src dst x,ty,pos,af,g⟩ c N := .of_pure fun ρ σ a w hr => by
  have e1 := hr.ev x
  rw [hx] at e1
  obtain ⟨b,hb,e1⟩ := e1
  obtain ⟨cs,hw,ha,_⟩ := hr.getLoc hi hb
  obtain ⟨j,hj,hjs⟩ := info_of_sz hz
  have hsh : w.shape? b = some (t',cs.length) := by simp [World.shape?,hw]
  have hlen : l.length = cs.length := ha.length
  exact ⟨ptr b off,.one (.c (.loc i off)),by simp only [execOp,e1,Sem.run_bind,Lib.run_from_unsafe w ⟨b,off,none⟩ hs hd hj hsh (by rw [← hlen];exact hl),Result.andThen,Sem.run_pure],⟨b,hb,rfl⟩,h.1,h.2⟩
theorem VO.same {x : Operand} {ts : Array TypeId} {f : FuncId} {s : SV} (hx : c.ev x = s) (hrun : ∀ v w,(callFunc f #[v]).run X.P w = .ok (.value v) w) (h : nxt X d N c s) :
    VO X ⟨d,.call { callee := .value (.func f),args := #[x],argTypes := ts },ty,pos,af,g⟩ c N := .of_pure fun ρ σ a w hr => by
  subst hx
  refine ⟨a.eval x,c.ev x,?_,hr.ev x,h.1,h.2⟩
  have hf : a.eval (.func f) = .func (.func f) #[] #[] := rfl
  simp [execOp,resolve,Deferred.ofValue,hf,invoke,hrun]
theorem VO.unsafeString {x y : Operand} {pt it i e n : Nat} {k : IntKind} {l : List UInt8} (hx : c.ev x = .one (.c (.ri i 0))) (hy : c.ev y = vv (.int .i64 l.length)) (hi : c.loc[i]? = some (.row e 1 n (bcells l)))
    (hp : X.P.underlying pt = some (.pointer e)) (hc : X.P.cellsOf e = 1) (h0 : l ≠ []) (h63 : l.length ≤ 9223372036854775807) (h : nxt X d N { c with loc := c.loc.set i .gone } (vv (.string (B l)))) :
    VO X ⟨d,.call { callee := .builtin .unsafeString,args := #[x,y],argTypes := #[pt,it] },ty,pos,af,g⟩ c N := .of_value fun ρ σ a w hr => by
  have e1 := hr.ev x
  rw [hx] at e1
  obtain ⟨ad,n',cap',hs,e1⟩ := e1
  have e2 := hr.ev y
  rw [hy] at e2
  have e2 : a.eval y = .int .i64 l.length := e2
  obtain ⟨fp,hfp⟩ := hr.locAt hi
  obtain ⟨hd0,hk⟩ := hr.loc i _ fp _ hi hfp hs
  have hlen : n * 1 = l.length := by have := hd0.1;rw [bcells_length] at this;omega
  have hcell := hr.rowCell hi hs
  rcases hd0.2 with ⟨e0,_⟩ | ⟨gg,cap,cur,e0,_,hg,hnc,_,hcs,htake⟩
  · cases e0
  cases e0
  have hadd : (⟨gg,0,none⟩ : Addr).add 0 = ⟨gg,0,none⟩ := by simp [Addr.add]
  rw [hadd] at e1
  have hsh : w.shape? gg = some (e,cur.size) := by simp [World.shape?,hg]
  have hrun := Lib.run_unsafeString_row (P := X.P) w pt it ty e hp hc gg cur.size hsh l h0 (by omega) h63 (fun j x hj => hcell j _ (by simp [bcells,hj]))
  have hR : Rel X { c with loc := c.loc.set i .gone } ρ σ a (w.freeze ⟨gg,0,none⟩ l.length) := by
    have hz : l.length ≠ 0 := by simpa using h0
    have hold : ∀ k,k ≠ gg → (w.freeze ⟨gg,0,none⟩ l.length).heap[k]? = w.heap[k]? := fun k hk => by
      simp only [World.freeze,hz,if_false,Array.getElem?_modify]
      rw [if_neg (fun e => hk e.symm)]
    have hsz : (w.freeze ⟨gg,0,none⟩ l.length).heap.size = w.heap.size := by simp [World.freeze,hz]
    have hgf : gg ∈ fp := hk gg rfl
    refine ⟨hr.env,by simp [hr.len],by simp [hr.lenS],fun j o fq u ho hb hu => ?_,hr.inj,fun b hb => by rw [hsz];exact hr.lt b hb,hr.fresh,?_,hr.defers,hr.size,hr.one,hr.pin⟩
    · by_cases e : j = i
      · subst e
        rw [List.getElem?_set_self (List.getElem?_eq_some_iff.1 hi).1] at ho
        cases ho;trivial
      · rw [List.getElem?_set_ne (by omega)] at ho
        exact DL.kept (Up.refl _) (by rw [hsz];exact Nat.le_refl _) (fun k hk2 => hold k (fun eb => e (flat_inj hr.inj hb hfp hk2 (by rw [eb];exact hgf)))) (hr.loc j o fq u ho hb hu)
    · refine ⟨?_,?_,?_,by rw [hsz];exact hr.low.size,fun k hk2 hx => ?_⟩
      · simp only [World.freeze,hz,if_false];exact hr.low.os
      · simp only [World.freeze,hz,if_false];exact hr.low.tape
      · simp only [World.freeze,hz,if_false];exact hr.low.output
      · have hne : k ≠ gg := by
          rintro rfl
          rcases hr.fresh k (mem_flat hfp hgf) with hf | hf
          · omega
          · exact hx hf
        rw [hold k hne]
        exact hr.low.block k hk2 hx
  refine ⟨.string (B l),_,_,ρ,σ,vv (.string (B l)),?_,hR,rfl,h.1,h.2⟩
  simp only [execOp,resolve,invoke,builtin,Sem.run_bind,Sem.run_pure,Result.andThen_ok,List.map_toArray,List.map_cons,List.map_nil,e1,e2]
  rw [hrun]
  rfl
end
theorem vals?_map : ∀ us : List Value,vals? (us.map SC.v) = some us
  | [] => rfl
  | u :: us => by simp [vals?,vals?_map us]
@[reducible] def plain (us : List Value) (t : TypeId) : LO := .cells (us.map SC.v) t
section
variable {X : Ctx} {c : Cfg} {N : Cfg → Prop} {d : Option Tmp} {ty : TypeId} {pos : String} {af : Array Edge} {g : Option (Nat × Bool)}
theorem Rel.plainAt {ρ : List (List Nat)} {σ : List Value} {a : Act} {w : World} (h : Rel X c ρ σ a w) {i b : Nat} {us : List Value} {t : TypeId} (hi : c.loc[i]? = some (plain us t)) (hb : σ[i]? = some (ptr b 0)) :
    w.heap[b]? = some (.cells us.toArray t (0,0)) ∧ ∃ fp,ρ[i]? = some fp ∧ b ∈ fp := by
  obtain ⟨cs,hw,ha,hfp⟩ := h.getLoc hi hb
  have : cs = us := vals?_spec (vals?_map us) ha
  subst this
  exact ⟨hw,hfp⟩
theorem Rel.splice {ρ : List (List Nat)} {σ : List Value} {a : Act} {w : World} (h : Rel X c ρ σ a w) {j b k : Nat} {us vs : List Value} {e : TypeId} (hj : c.loc[j]? = some (plain us e)) (hb : σ[j]? = some (ptr b 0))
    (hl : k + vs.length ≤ us.length) (h1 : ∀ u ∈ vs,u.oneCell' = true) :
    ∃ w',(storeCells ⟨b,k,none⟩ vs 0).run X.P w = .ok () w' ∧ Rel X { c with loc := c.loc.set j (plain (us.take k ++ vs ++ us.drop (k + vs.length)) e) } ρ σ a w' := by
  obtain ⟨hw,fp,hfp,hm⟩ := h.plainAt hj hb
  have hrun := run_storeCells_row (P := X.P) hw vs (off := k) (by simpa using hl) h1
  refine ⟨_,hrun,?_⟩
  have hset := setRow_heap w b us.toArray (us.take k ++ vs ++ us.drop (k + vs.length)).toArray _ _ hw
  have heq : w.setRow b (us.take k ++ vs ++ us.drop (k + vs.length)).toArray = { w with heap := w.heap.setIfInBounds b (.cells (us.take k ++ vs ++ us.drop (k + vs.length)).toArray e (0,0)) } := by
    simp only [World.setRow]
    congr 1
    apply Array.ext'
    apply List.ext_getElem?
    intro i
    simp only [Array.getElem?_toList,Array.getElem?_modify]
    by_cases ej : b = i
    · subst ej
      rw [if_pos rfl,hw,Array.getElem?_setIfInBounds_self_of_lt (Array.getElem?_eq_some_iff.1 hw).1]
      rfl
    · rw [if_neg ej,Array.getElem?_setIfInBounds_ne (by omega)]
  simp only [List.toList_toArray] at hset ⊢
  rw [heq] at hset ⊢
  exact h.setObj _ (List.getElem?_eq_some_iff.1 hj).1 hfp hm hb ⟨b,_,rfl,hm,hset,all2_vals _⟩
end
section
variable {X : Ctx} {c : Cfg} {N : Cfg → Prop} {d : Option Tmp} {ty : TypeId} {pos : String} {af : Array Edge} {g : Option (Nat × Bool)}
end
theorem Ctr.nilRow {P : Program} {G : List (Addr × Value)} {f : FuncId} {os : List LO} {args : List SV} {R : List LO → SV → Prop} (e sz : Nat)
    (h : Ctr P G f os args (fun os' r => R os' r ∨ (r = vv (.slice none 0 0) ∧ R (os' ++ [.row e sz 0 []]) (.one (.c (.row os'.length)))))) : Ctr P G f os args R := by
  intro X hP hG N hN ρ σ a w hr vals ha
  refine (h X hP hG (fun c s => ∃ os',c = ⟨[],os'⟩ ∧ (R os' s ∨ (s = vv (.slice none 0 0) ∧ R (os' ++ [.row e sz 0 []]) (.one (.c (.row os'.length)))))) (fun os' s hR => ⟨os',rfl,hR⟩) ρ σ a w hr vals ha).mono ?_
  rintro ev w' ⟨v,c',ρ',σ',s,rfl,hr',hd,os',rfl,hR | ⟨rfl,hR⟩⟩
  · exact ⟨v,_,ρ',σ',s,rfl,hr',hd,hN _ _ hR⟩
  · have hd : v = .slice none 0 0 := hd
    subst hd
    have hn := hr'.nilRow e sz
    refine ⟨_,_,_,_,_,rfl,hn,?_,hN _ _ hR⟩
    show (σ' ++ [Value.slice none 0 0])[os'.length]? = some (.slice none 0 0)
    have : σ'.length = os'.length := hr'.lenS
    rw [← this];simp
theorem Rel.retell {X : Ctx} {env : List (Nat × SV)} {loc : List LO} {ρ : List (List Nat)} {σ : List Value} {a : Act} {w : World} (hr : Rel X ⟨env,loc⟩ ρ σ a w) {i : Nat} {l l' : List SC} {t : TypeId} (hi : loc[i]? = some (.cells l t))
    (hl : ∀ cs,All2 (DC σ) l cs → All2 (DC σ) l' cs) : Rel X ⟨env,loc.set i (.cells l' t)⟩ ρ σ a w := by
  have hlt : i < loc.length := (List.getElem?_eq_some_iff.1 hi).1
  refine ⟨hr.env,by simpa using hr.len,by simpa using hr.lenS,fun j o fp v ho hb hv => ?_,hr.inj,hr.lt,hr.fresh,hr.low,hr.defers,hr.size,hr.one,hr.pin⟩
  by_cases e : j = i
  · subst e
    rw [List.getElem?_set_self hlt] at ho
    cases ho
    obtain ⟨b,cs,e1,e2,e3,e4⟩ := hr.loc j _ fp v hi hb hv
    exact ⟨b,cs,e1,e2,e3,hl cs e4⟩
  · rw [List.getElem?_set_ne (by omega)] at ho
    exact hr.loc j o fp v ho hb hv
theorem JA {α : Type} {x : α} {xs : List α} {n : Nat} {d : α} : (x :: xs).getD (n + 1) d = xs.getD n d := rfl
theorem JB (l : List UInt8) : (⟨l.toArray⟩ : ByteArray) = B l := rfl
theorem JC {α β : Type} {f : α → Option β} : List.filterMap f [] = [] := rfl
theorem JD {α : Type} [BEq α] [LawfulBEq α] (a : α) : (a != a) = false := by first | exact @bne_self_eq_false .. | simp only [bne_self_eq_false]
theorem JE {α : Type} (val val_1 : α) : (some val = some val_1) = (val = val_1) := by first | exact @Option.some.injEq .. | simp only [Option.some.injEq]
theorem JF {α : Type} {p : α → Prop} {a' : α} : (∃ a,a' = a ∧ p a) ↔ p a' := by first | exact @exists_eq_left' .. | simp only [exists_eq_left']
theorem JG {α : Type} : (none : Option α).isNone = true := rfl
theorem JH {α : Type} {a : α} : (some a).isNone = false := rfl
theorem JI {α : Type} : (none : Option α).isSome = false := rfl
theorem JJ {α : Type} {a : α} : (some a).isSome = true := rfl
theorem JK {α : Type} {f : α → Bool} : ([] : List α).all f = true := rfl
theorem JL (b : Bool) : (b && true) = b := by first | exact @Bool.and_true .. | simp only [Bool.and_true]
theorem JM (b : Bool) : (true && b) = b := rfl
theorem JN {N : Cfg → Prop} {K : Exit → Cfg → Prop} {c : Cfg} : nx N K Exit.normal c = N c := rfl
theorem JO {N : Cfg → Prop} {K : Exit → Cfg → Prop} {c : Cfg} : nx N K Exit.ret c = K Exit.ret c := rfl
theorem JP {K : Exit → Cfg → Prop} {c : Cfg} {id : Nat} : bx id K Exit.normal c = K Exit.normal c := rfl
theorem JQ {K : Exit → Cfg → Prop} {c : Cfg} {id : Nat} : bx id K Exit.ret c = K Exit.ret c := rfl
theorem JR {α : Type} {a b : α} : (some a).getD b = a := rfl
theorem JS {α : Type} {a : α} : (none : Option α).getD a = a := rfl
theorem JT {α β : Type} (a : α) (f : α → Option β) : (some a).bind f = f a := rfl
theorem JU {α β : Type} (a : α) (f : α → β) : Option.map f (some a) = some (f a) := rfl
theorem JV {α : Type} {xs : List α} {i : Nat} : xs.toArray[i]? = xs[i]? := by first | exact @List.getElem?_toArray .. | simp only [List.getElem?_toArray]
theorem JW {α : Type} {a : α} {i : Nat} {l : List α} : (a :: l)[i + 1]? = l[i]? := rfl
theorem JX {α : Type} {a : α} {l : List α} : (a :: l)[0]? = some a := rfl
theorem JY {α β : Type} {f : α → β} {a : α} {l : List α} : List.map f (a :: l) = f a :: List.map f l := rfl
theorem JZ {α β : Type} {f : α → β} : List.map f [] = [] := rfl
theorem WA {α : Type} (ks : List α) : [] ++ ks = ks := rfl
theorem WB {α : Type} {a : α} {ks bs : List α} : a :: ks ++ bs = a :: (ks ++ bs) := rfl
theorem WC {α : Type} (ks : List α) : ks ++ [] = ks := by first | exact @List.append_nil .. | simp only [List.append_nil]
theorem WD {α : Type} {a : α} {ks : List α} : (a :: ks).length = ks.length + 1 := rfl
theorem WE {α : Type} : ([] : List α).length = 0 := rfl
theorem WF {α : Type} {x : α} {xs : List α} {a : α} : (x :: xs).set 0 a = a :: xs := rfl
theorem WG {α : Type} {x : α} {xs : List α} {i : Nat} {a : α} : (x :: xs).set (i + 1) a = x :: xs.set i a := rfl
theorem WH {α : Type} {a : α} {ks : List α} {i : Nat} : List.take (i + 1) (a :: ks) = a :: List.take i ks := rfl
theorem WI {α : Type} {l : List α} : List.take 0 l = [] := rfl
theorem WJ {α : Type} {i : Nat} : List.take i ([] : List α) = [] := by first | exact @List.take_nil .. | simp only [List.take_nil]
theorem WK {α : Type} {a : α} {l : List α} {i : Nat} : List.drop (i + 1) (a :: l) = List.drop i l := rfl
theorem WL {α : Type} {l : List α} : List.drop 0 l = l := rfl
theorem WM {α : Type} {i : Nat} : List.drop i ([] : List α) = [] := by first | exact @List.drop_nil .. | simp only [List.drop_nil]
theorem WN {α : Type} {ks : List α} : ks.toArray.toList = ks := rfl
theorem WO  : (false = true) = False := by first | exact @Bool.false_eq_true .. | simp only [Bool.false_eq_true]
theorem WP  : (!true) = false := rfl
theorem WQ  : (!false) = true := rfl
theorem WR (n : Nat) : (n : Int).toNat = n := rfl
theorem WS {α : Type} {x : α} {xs : List α} {d : α} : (x :: xs).getD 0 d = x := rfl
theorem WT {α : Type} [BEq α] [ReflBEq α] (a : α) : (a == a) = true := by simp only [beq_self_eq_true]
theorem WU {α : Type} {a : α} {l : List α} {f : α → Bool} : (a :: l).all f = (f a && l.all f) := rfl
theorem WV {N : Cfg → Prop} {K : Exit → Cfg → Prop} {c : Cfg} {id : Nat} : nx N K (Exit.exit id) c = K (Exit.exit id) c := rfl
theorem WW {K : Exit → Cfg → Prop} {c : Cfg} {id id' : Nat} : bx id K (Exit.exit id') c = if id' = id then K Exit.normal c else K (Exit.exit id') c := rfl
end Go.Sx
namespace Go.Sx
theorem GA : type_of% (And.intro @WS (And.intro @JA (And.intro @JB (And.intro @wI64 (And.intro @wU64 (And.intro @Int.cast_ofNat_Int (And.intro @sx0 (And.intro @sx1 (And.intro @sx2 (And.intro @sx3 (And.intro @sx4 (And.intro @sx5 (And.intro @sx6 (And.intro @sx7 (And.intro @sy0 (And.intro @sy1 (And.intro @JC (And.intro @JD (And.intro @WT (And.intro @JE (And.intro @JF (And.intro @JG (And.intro @JH (And.intro @JI (And.intro @JJ (And.intro @JK (And.intro @WU (And.intro @JL (And.intro @JM (And.intro @JN (And.intro @JO (And.intro @WV (And.intro @JP (And.intro @JQ (And.intro @WW (And.intro @JR (And.intro @JS (And.intro @JT (And.intro @JU (And.intro @JV (And.intro @JW (And.intro @JX (And.intro @JY (And.intro @JZ (And.intro @WA (And.intro @WB (And.intro @WC (And.intro @WD (And.intro @WE (And.intro @WF (And.intro @WG (And.intro @WH (And.intro @WI (And.intro @WJ (And.intro @WK (And.intro @WL (And.intro @WM (And.intro @WN (And.intro @true_and (And.intro @and_true (And.intro @WO (And.intro @WP (And.intro @WQ @WR))))))))))))))))))))))))))))))))))))))))))))))))))))))))))))))) := And.intro @WS (And.intro @JA (And.intro @JB (And.intro @wI64 (And.intro @wU64 (And.intro @Int.cast_ofNat_Int (And.intro @sx0 (And.intro @sx1 (And.intro @sx2 (And.intro @sx3 (And.intro @sx4 (And.intro @sx5 (And.intro @sx6 (And.intro @sx7 (And.intro @sy0 (And.intro @sy1 (And.intro @JC (And.intro @JD (And.intro @WT (And.intro @JE (And.intro @JF (And.intro @JG (And.intro @JH (And.intro @JI (And.intro @JJ (And.intro @JK (And.intro @WU (And.intro @JL (And.intro @JM (And.intro @JN (And.intro @JO (And.intro @WV (And.intro @JP (And.intro @JQ (And.intro @WW (And.intro @JR (And.intro @JS (And.intro @JT (And.intro @JU (And.intro @JV (And.intro @JW (And.intro @JX (And.intro @JY (And.intro @JZ (And.intro @WA (And.intro @WB (And.intro @WC (And.intro @WD (And.intro @WE (And.intro @WF (And.intro @WG (And.intro @WH (And.intro @WI (And.intro @WJ (And.intro @WK (And.intro @WL (And.intro @WM (And.intro @WN (And.intro @true_and (And.intro @and_true (And.intro @WO (And.intro @WP (And.intro @WQ @WR))))))))))))))))))))))))))))))))))))))))))))))))))))))))))))))
theorem GB : type_of% (And.intro @bifT (And.intro @bifF (And.intro @gifT @gifF))) := And.intro @bifT (And.intro @bifF (And.intro @gifT @gifF))
theorem GX : (∀ (α β : Type) (f : α → Option β) (a : α) (l : List α),List.filterMap f (a :: l) = match f a with | none => List.filterMap f l | some b => b :: List.filterMap f l) ∧ (∀ (α : Type) (a : α),(a = a) = True) ∧ (∀ (α : Type) [BEq α] [ReflBEq α] (a : α),(a == a) = true) :=
  ⟨fun _ _ _ _ _ => List.filterMap_cons,fun _ _ => eq_self _,fun _ _ _ _ => BEq.rfl⟩
end Go.Sx
namespace Go.Proofs.YtbdacbcpniegiaaGreatDoor.Ty
open Go Go.Sx Go.Proofs
theorem ag109 : aggOf Tryz.prog 109 = some true := by kernel_rfl
theorem ag111 : aggOf Tryz.prog 111 = some false := by kernel_rfl
theorem ag113 : aggOf Tryz.prog 113 = some true := by kernel_rfl
theorem ag115 : aggOf Tryz.prog 115 = some false := by kernel_rfl
theorem ag117 : aggOf Tryz.prog 117 = some false := by kernel_rfl
theorem ag122 : aggOf Tryz.prog 122 = some false := by kernel_rfl
theorem ag126 : aggOf Tryz.prog 126 = some true := by kernel_rfl
theorem ag135 : aggOf Tryz.prog 135 = some false := by kernel_rfl
theorem ag22 : aggOf Tryz.prog 22 = some false := by kernel_rfl
theorem ag23 : aggOf Tryz.prog 23 = some false := by kernel_rfl
theorem ag24 : aggOf Tryz.prog 24 = some false := by kernel_rfl
theorem ag26 : aggOf Tryz.prog 26 = some true := by kernel_rfl
theorem ag27 : aggOf Tryz.prog 27 = some false := by kernel_rfl
theorem ag3 : aggOf Tryz.prog 3 = some false := by kernel_rfl
theorem ag4 : aggOf Tryz.prog 4 = some false := by kernel_rfl
theorem ag5 : aggOf Tryz.prog 5 = some false := by kernel_rfl
theorem ag50 : aggOf Tryz.prog 50 = some true := by kernel_rfl
theorem ag52 : aggOf Tryz.prog 52 = some true := by kernel_rfl
theorem ag55 : aggOf Tryz.prog 55 = some true := by kernel_rfl
theorem ag9 : aggOf Tryz.prog 9 = some false := by kernel_rfl
theorem ag91 : aggOf Tryz.prog 91 = some true := by kernel_rfl
theorem ag92 : aggOf Tryz.prog 92 = some false := by kernel_rfl
theorem ag98 : aggOf Tryz.prog 98 = some false := by kernel_rfl
theorem co10 : calleeOk Tryz.prog 10 = true := by kernel_rfl
theorem co101 : calleeOk Tryz.prog 101 = true := by kernel_rfl
theorem co106 : calleeOk Tryz.prog 106 = true := by kernel_rfl
theorem co121 : calleeOk Tryz.prog 121 = true := by kernel_rfl
theorem co13 : calleeOk Tryz.prog 13 = true := by kernel_rfl
theorem co14 : calleeOk Tryz.prog 14 = true := by kernel_rfl
theorem co17 : calleeOk Tryz.prog 17 = true := by kernel_rfl
theorem co19 : calleeOk Tryz.prog 19 = true := by kernel_rfl
theorem co20 : calleeOk Tryz.prog 20 = true := by kernel_rfl
theorem co21 : calleeOk Tryz.prog 21 = true := by kernel_rfl
theorem co22 : calleeOk Tryz.prog 22 = true := by kernel_rfl
theorem co23 : calleeOk Tryz.prog 23 = true := by kernel_rfl
theorem co24 : calleeOk Tryz.prog 24 = true := by kernel_rfl
theorem co25 : calleeOk Tryz.prog 25 = true := by kernel_rfl
theorem co26 : calleeOk Tryz.prog 26 = true := by kernel_rfl
theorem co27 : calleeOk Tryz.prog 27 = true := by kernel_rfl
theorem co28 : calleeOk Tryz.prog 28 = true := by kernel_rfl
theorem co29 : calleeOk Tryz.prog 29 = true := by kernel_rfl
theorem co39 : calleeOk Tryz.prog 39 = true := by kernel_rfl
theorem co42 : calleeOk Tryz.prog 42 = true := by kernel_rfl
theorem co43 : calleeOk Tryz.prog 43 = true := by kernel_rfl
theorem co44 : calleeOk Tryz.prog 44 = true := by kernel_rfl
theorem co45 : calleeOk Tryz.prog 45 = true := by kernel_rfl
theorem co46 : calleeOk Tryz.prog 46 = true := by kernel_rfl
theorem co47 : calleeOk Tryz.prog 47 = true := by kernel_rfl
theorem co48 : calleeOk Tryz.prog 48 = true := by kernel_rfl
theorem co50 : calleeOk Tryz.prog 50 = true := by kernel_rfl
theorem co51 : calleeOk Tryz.prog 51 = true := by kernel_rfl
theorem co52 : calleeOk Tryz.prog 52 = true := by kernel_rfl
theorem co53 : calleeOk Tryz.prog 53 = true := by kernel_rfl
theorem co54 : calleeOk Tryz.prog 54 = true := by kernel_rfl
theorem co55 : calleeOk Tryz.prog 55 = true := by kernel_rfl
theorem co56 : calleeOk Tryz.prog 56 = true := by kernel_rfl
theorem co57 : calleeOk Tryz.prog 57 = true := by kernel_rfl
theorem co58 : calleeOk Tryz.prog 58 = true := by kernel_rfl
theorem co59 : calleeOk Tryz.prog 59 = true := by kernel_rfl
theorem co61 : calleeOk Tryz.prog 61 = true := by kernel_rfl
theorem co63 : calleeOk Tryz.prog 63 = true := by kernel_rfl
theorem co64 : calleeOk Tryz.prog 64 = true := by kernel_rfl
theorem co66 : calleeOk Tryz.prog 66 = true := by kernel_rfl
theorem co67 : calleeOk Tryz.prog 67 = true := by kernel_rfl
theorem co69 : calleeOk Tryz.prog 69 = true := by kernel_rfl
theorem co70 : calleeOk Tryz.prog 70 = true := by kernel_rfl
theorem co8 : calleeOk Tryz.prog 8 = true := by kernel_rfl
theorem co80 : calleeOk Tryz.prog 80 = true := by kernel_rfl
theorem co81 : calleeOk Tryz.prog 81 = true := by kernel_rfl
theorem co82 : calleeOk Tryz.prog 82 = true := by kernel_rfl
theorem co83 : calleeOk Tryz.prog 83 = true := by kernel_rfl
theorem co84 : calleeOk Tryz.prog 84 = true := by kernel_rfl
theorem co85 : calleeOk Tryz.prog 85 = true := by kernel_rfl
theorem co86 : calleeOk Tryz.prog 86 = true := by kernel_rfl
theorem co87 : calleeOk Tryz.prog 87 = true := by kernel_rfl
theorem co88 : calleeOk Tryz.prog 88 = true := by kernel_rfl
theorem co89 : calleeOk Tryz.prog 89 = true := by kernel_rfl
theorem co90 : calleeOk Tryz.prog 90 = true := by kernel_rfl
theorem co91 : calleeOk Tryz.prog 91 = true := by kernel_rfl
theorem co92 : calleeOk Tryz.prog 92 = true := by kernel_rfl
theorem co93 : calleeOk Tryz.prog 93 = true := by kernel_rfl
theorem co94 : calleeOk Tryz.prog 94 = true := by kernel_rfl
theorem co95 : calleeOk Tryz.prog 95 = true := by kernel_rfl
theorem co96 : calleeOk Tryz.prog 96 = true := by kernel_rfl
theorem co98 : calleeOk Tryz.prog 98 = true := by kernel_rfl
theorem co99 : calleeOk Tryz.prog 99 = true := by kernel_rfl
theorem cx100 : calleeOk Tryz.prog 100 = false := by kernel_rfl
theorem ei123 : elemInf Tryz.prog 123 = some (126,4,40,(Value.agg #[(Value.int IntKind.i64 0),(Value.int IntKind.i64 0),(Value.int IntKind.u64 0),(Value.string { data := #[] })])) := by kernel_rfl
theorem ei23 : elemInf Tryz.prog 23 = some (9,1,16,(Value.string { data := #[] })) := by kernel_rfl
theorem ei24 : elemInf Tryz.prog 24 = some (91,2,24,(Value.agg #[(Value.string { data := #[] }),(Value.int IntKind.u64 0)])) := by kernel_rfl
theorem ei27 : elemInf Tryz.prog 27 = some (5,1,1,(Value.int IntKind.u8 0)) := by kernel_rfl
theorem el123 : elemSz Tryz.prog 123 = some (126,4) := by kernel_rfl
theorem el151 : elemSz Tryz.prog 151 = some (109,4) := by kernel_rfl
theorem el23 : elemSz Tryz.prog 23 = some (9,1) := by kernel_rfl
theorem el24 : elemSz Tryz.prog 24 = some (91,2) := by kernel_rfl
theorem el27 : elemSz Tryz.prog 27 = some (5,1) := by kernel_rfl
theorem fo109_0 : fieldOff Tryz.prog 109 0 = some 0 := by kernel_rfl
theorem fo109_1 : fieldOff Tryz.prog 109 1 = some 1 := by kernel_rfl
theorem fo109_2 : fieldOff Tryz.prog 109 2 = some 2 := by kernel_rfl
theorem fo109_3 : fieldOff Tryz.prog 109 3 = some 3 := by kernel_rfl
theorem fo113_0 : fieldOff Tryz.prog 113 0 = some 0 := by kernel_rfl
theorem fo113_1 : fieldOff Tryz.prog 113 1 = some 1 := by kernel_rfl
theorem fo126_0 : fieldOff Tryz.prog 126 0 = some 0 := by kernel_rfl
theorem fo126_1 : fieldOff Tryz.prog 126 1 = some 1 := by kernel_rfl
theorem fo126_2 : fieldOff Tryz.prog 126 2 = some 2 := by kernel_rfl
theorem fo126_3 : fieldOff Tryz.prog 126 3 = some 3 := by kernel_rfl
theorem fo26_0 : fieldOff Tryz.prog 26 0 = some 0 := by kernel_rfl
theorem fo26_1 : fieldOff Tryz.prog 26 1 = some 1 := by kernel_rfl
theorem fo26_2 : fieldOff Tryz.prog 26 2 = some 2 := by kernel_rfl
theorem fo26_3 : fieldOff Tryz.prog 26 3 = some 3 := by kernel_rfl
theorem fo26_4 : fieldOff Tryz.prog 26 4 = some 4 := by kernel_rfl
theorem fo26_5 : fieldOff Tryz.prog 26 5 = some 5 := by kernel_rfl
theorem fo26_6 : fieldOff Tryz.prog 26 6 = some 6 := by kernel_rfl
theorem fo50_0 : fieldOff Tryz.prog 50 0 = some 0 := by kernel_rfl
theorem fo50_1 : fieldOff Tryz.prog 50 1 = some 1 := by kernel_rfl
theorem fo52_0 : fieldOff Tryz.prog 52 0 = some 0 := by kernel_rfl
theorem fo52_1 : fieldOff Tryz.prog 52 1 = some 2 := by kernel_rfl
theorem fo52_2 : fieldOff Tryz.prog 52 2 = some 3 := by kernel_rfl
theorem fo52_3 : fieldOff Tryz.prog 52 3 = some 4 := by kernel_rfl
theorem fo55_0 : fieldOff Tryz.prog 55 0 = some 0 := by kernel_rfl
theorem fo55_1 : fieldOff Tryz.prog 55 1 = some 2 := by kernel_rfl
theorem fo55_2 : fieldOff Tryz.prog 55 2 = some 3 := by kernel_rfl
theorem fo55_3 : fieldOff Tryz.prog 55 3 = some 4 := by kernel_rfl
theorem fo91_0 : fieldOff Tryz.prog 91 0 = some 0 := by kernel_rfl
theorem fo91_1 : fieldOff Tryz.prog 91 1 = some 1 := by kernel_rfl
theorem fo94_0 : fieldOff Tryz.prog 94 0 = some 0 := by kernel_rfl
theorem fo94_1 : fieldOff Tryz.prog 94 1 = some 1 := by kernel_rfl
theorem fo96_0 : fieldOff Tryz.prog 96 0 = some 0 := by kernel_rfl
theorem fs109 : fieldsOf Tryz.prog 109 = some [(0,1),(1,1),(2,1),(3,1)] := by kernel_rfl
theorem fs113 : fieldsOf Tryz.prog 113 = some [(0,1),(1,1)] := by kernel_rfl
theorem fs126 : fieldsOf Tryz.prog 126 = some [(0,1),(1,1),(2,1),(3,1)] := by kernel_rfl
theorem fs26 : fieldsOf Tryz.prog 26 = some [(0,1),(1,1),(2,1),(3,1),(4,1),(5,1),(6,1)] := by kernel_rfl
theorem fs50 : fieldsOf Tryz.prog 50 = some [(0,1),(1,1)] := by kernel_rfl
theorem fs52 : fieldsOf Tryz.prog 52 = some [(0,2),(2,1),(3,1),(4,1)] := by kernel_rfl
theorem fs55 : fieldsOf Tryz.prog 55 = some [(0,2),(2,1),(3,1),(4,1)] := by kernel_rfl
theorem ib165 : isBytesT Tryz.prog 165 = false := by kernel_rfl
theorem ib22 : isBytesT Tryz.prog 22 = false := by kernel_rfl
theorem ib27 : isBytesT Tryz.prog 27 = true := by kernel_rfl
theorem ib3 : isBytesT Tryz.prog 3 = false := by kernel_rfl
theorem ib5 : isBytesT Tryz.prog 5 = false := by kernel_rfl
theorem ib53 : isBytesT Tryz.prog 53 = false := by kernel_rfl
theorem ib9 : isBytesT Tryz.prog 9 = false := by kernel_rfl
theorem ib92 : isBytesT Tryz.prog 92 = false := by kernel_rfl
theorem is123 : isStrT Tryz.prog 123 = false := by kernel_rfl
theorem is165 : isStrT Tryz.prog 165 = false := by kernel_rfl
theorem is22 : isStrT Tryz.prog 22 = false := by kernel_rfl
theorem is23 : isStrT Tryz.prog 23 = false := by kernel_rfl
theorem is24 : isStrT Tryz.prog 24 = false := by kernel_rfl
theorem is27 : isStrT Tryz.prog 27 = false := by kernel_rfl
theorem is3 : isStrT Tryz.prog 3 = false := by kernel_rfl
theorem is5 : isStrT Tryz.prog 5 = false := by kernel_rfl
theorem is53 : isStrT Tryz.prog 53 = false := by kernel_rfl
theorem is9 : isStrT Tryz.prog 9 = true := by kernel_rfl
theorem is92 : isStrT Tryz.prog 92 = false := by kernel_rfl
theorem mi118 : mapInf Tryz.prog 118 = some ((TypeDesc.int IntKind.i64),(Value.agg #[(Value.int IntKind.i64 0),Value.nilFunc])) := by kernel_rfl
theorem mi160 : mapInf Tryz.prog 160 = some ((TypeDesc.int IntKind.i64),(Value.int IntKind.i64 0)) := by kernel_rfl
theorem sz109 : szOf Tryz.prog 109 = some 4 := by kernel_rfl
theorem sz111 : szOf Tryz.prog 111 = some 1 := by kernel_rfl
theorem sz113 : szOf Tryz.prog 113 = some 2 := by kernel_rfl
theorem sz115 : szOf Tryz.prog 115 = some 1 := by kernel_rfl
theorem sz117 : szOf Tryz.prog 117 = some 1 := by kernel_rfl
theorem sz122 : szOf Tryz.prog 122 = some 1 := by kernel_rfl
theorem sz126 : szOf Tryz.prog 126 = some 4 := by kernel_rfl
theorem sz135 : szOf Tryz.prog 135 = some 1 := by kernel_rfl
theorem sz22 : szOf Tryz.prog 22 = some 1 := by kernel_rfl
theorem sz23 : szOf Tryz.prog 23 = some 1 := by kernel_rfl
theorem sz24 : szOf Tryz.prog 24 = some 1 := by kernel_rfl
theorem sz26 : szOf Tryz.prog 26 = some 7 := by kernel_rfl
theorem sz27 : szOf Tryz.prog 27 = some 1 := by kernel_rfl
theorem sz3 : szOf Tryz.prog 3 = some 1 := by kernel_rfl
theorem sz4 : szOf Tryz.prog 4 = some 1 := by kernel_rfl
theorem sz5 : szOf Tryz.prog 5 = some 1 := by kernel_rfl
theorem sz50 : szOf Tryz.prog 50 = some 2 := by kernel_rfl
theorem sz52 : szOf Tryz.prog 52 = some 5 := by kernel_rfl
theorem sz55 : szOf Tryz.prog 55 = some 5 := by kernel_rfl
theorem sz9 : szOf Tryz.prog 9 = some 1 := by kernel_rfl
theorem sz91 : szOf Tryz.prog 91 = some 2 := by kernel_rfl
theorem sz92 : szOf Tryz.prog 92 = some 1 := by kernel_rfl
theorem sz98 : szOf Tryz.prog 98 = some 1 := by kernel_rfl
theorem ze109 : zeroCells Tryz.prog 109 = some [(Value.int IntKind.i64 0),(Value.int IntKind.i64 0),(Value.int IntKind.u64 0),(Value.string { data := #[] })] := by kernel_rfl
theorem ze113 : zeroCells Tryz.prog 113 = some [(Value.int IntKind.i64 0),Value.nilFunc] := by kernel_rfl
theorem ze126 : zeroCells Tryz.prog 126 = some [(Value.int IntKind.i64 0),(Value.int IntKind.i64 0),(Value.int IntKind.u64 0),(Value.string { data := #[] })] := by kernel_rfl
theorem ze22 : zeroCells Tryz.prog 22 = some [(Value.int IntKind.u64 0)] := by kernel_rfl
theorem ze26 : zeroCells Tryz.prog 26 = some [(Value.int IntKind.i64 0),(Value.bool false),(Value.int IntKind.u64 0),(Value.slice none 0 0),(Value.slice none 0 0),(Value.slice none 0 0),(Value.string { data := #[] })] := by kernel_rfl
theorem ze5 : zeroCells Tryz.prog 5 = some [(Value.int IntKind.u8 0)] := by kernel_rfl
theorem ze50 : zeroCells Tryz.prog 50 = some [(Value.int IntKind.i64 0),(Value.string { data := #[] })] := by kernel_rfl
theorem ze52 : zeroCells Tryz.prog 52 = some [(Value.int IntKind.i64 0),(Value.string { data := #[] }),(Value.int IntKind.u64 0),(Value.bool false),(Value.string { data := #[] })] := by kernel_rfl
theorem ze55 : zeroCells Tryz.prog 55 = some [(Value.int IntKind.i64 0),(Value.string { data := #[] }),(Value.int IntKind.u64 0),(Value.bool false),(Value.string { data := #[] })] := by kernel_rfl
theorem ze9 : zeroCells Tryz.prog 9 = some [(Value.string { data := #[] })] := by kernel_rfl
theorem ze91 : zeroCells Tryz.prog 91 = some [(Value.string { data := #[] }),(Value.int IntKind.u64 0)] := by kernel_rfl
theorem ze96 : zeroCells Tryz.prog 96 = some [(Value.pointer none),(Value.slice none 0 0)] := by kernel_rfl
theorem eqS50 (x0 y0 : Int) (x1 y1 : List UInt8) : StrEq Tryz.prog 50 [Value.int .i64 x0,Value.string (B x1)].toArray [Value.int .i64 y0,Value.string (B y1)].toArray (x0 == y0 && x1 == y1) := by
  refine ⟨by kernel_rfl,fun w => ?_⟩
  have hS50 : Tryz.prog.underlying 50 = some (.struct (Tryz.prog.fieldsOf 50)) := by kernel_rfl
  have hp50 : Tryz.prog.stoodInHeld 50 = false := by kernel_rfl
  rw [show (10000 : Nat) = 9999 + 1 from rfl,run_equalIn_agg w 9999 50 _ _ hS50 hp50]
  skip
  simp only [Program.fieldsOf,Tryz.underlying50]
  simp only [Program.fieldsOf,Tryz.underlying50] at hS50
  have u3 := Tryz.underlying3
  have a3 := Tryz.isAgg3
  have z3 := Tryz.sizeOf3
  have u9 := Tryz.underlying9
  have a9 := Tryz.isAgg9
  have z9 := Tryz.sizeOf9
  go_simp
  by_cases h0 : x0 = y0 <;> by_cases h1 : x1 = y1 <;> simp [h0,h1,B_toList,B_inj]
theorem T4 {X : Ctx} (hP : X.P = Tryz.prog) : calleeOk X.P 8 = true ∧ fieldOff X.P 52 0 = some 0 ∧ fieldOff X.P 50 0 = some 0 ∧ aggOf X.P 3 = some false ∧ szOf X.P 3 = some 1 ∧ X.P.underlying 3 = some (TypeDesc.int IntKind.i64) ∧ X.P.underlying 53 = some (TypeDesc.int IntKind.u64) ∧ isBytesT X.P 3 = false ∧ isStrT X.P 53 = false ∧ isBytesT X.P 53 = false ∧ isStrT X.P 3 = false ∧ fieldOff X.P 52 1 = some 2 ∧ aggOf X.P 22 = some false ∧ szOf X.P 22 = some 1 ∧ X.P.underlying 22 = some (TypeDesc.int IntKind.u64) ∧ X.P.underlying 5 = some (TypeDesc.int IntKind.u8) ∧ isBytesT X.P 22 = false ∧ isStrT X.P 5 = false ∧ calleeOk X.P 21 = true ∧ fieldsOf X.P 50 = some [(0,1),(1,1)] ∧ zeroCells X.P 50 = some [(Value.int IntKind.i64 0),(Value.string { data := #[] })] ∧ szOf X.P 50 = some 2 ∧ fieldOff X.P 52 2 = some 3 ∧ aggOf X.P 4 = some false ∧ szOf X.P 4 = some 1 ∧ fieldOff X.P 52 3 = some 4 ∧ szOf X.P 9 = some 1 ∧ aggOf X.P 50 = some true ∧ aggOf X.P 9 = some false ∧ fieldsOf X.P 55 = some [(0,2),(2,1),(3,1),(4,1)] ∧ zeroCells X.P 55 = some [(Value.int IntKind.i64 0),(Value.string { data := #[] }),(Value.int IntKind.u64 0),(Value.bool false),(Value.string { data := #[] })] ∧ szOf X.P 55 = some 5 ∧ aggOf X.P 52 = some true ∧ szOf X.P 52 = some 5 ∧ calleeOk X.P 22 = true ∧ aggOf X.P 55 = some true ∧ calleeOk X.P 23 = true ∧ calleeOk X.P 13 = true ∧ calleeOk X.P 24 = true ∧ calleeOk X.P 25 = true ∧ zeroCells X.P 52 = some [(Value.int IntKind.i64 0),(Value.string { data := #[] }),(Value.int IntKind.u64 0),(Value.bool false),(Value.string { data := #[] })] ∧ calleeOk X.P 26 = true ∧ calleeOk X.P 27 = true ∧ calleeOk X.P 28 = true ∧ X.P.underlying 4 = some TypeDesc.bool ∧ calleeOk X.P 29 = true ∧ fieldOff X.P 55 0 = some 0 ∧ fieldOff X.P 55 1 = some 2 ∧ fieldOff X.P 55 2 = some 3 ∧ fieldOff X.P 55 3 = some 4 := by rw [hP];exact ⟨Ty.co8,Ty.fo52_0,Ty.fo50_0,Ty.ag3,Ty.sz3,Tryz.underlying3,Tryz.underlying53,Ty.ib3,Ty.is53,Ty.ib53,Ty.is3,Ty.fo52_1,Ty.ag22,Ty.sz22,Tryz.underlying22,Tryz.underlying5,Ty.ib22,Ty.is5,Ty.co21,Ty.fs50,Ty.ze50,Ty.sz50,Ty.fo52_2,Ty.ag4,Ty.sz4,Ty.fo52_3,Ty.sz9,Ty.ag50,Ty.ag9,Ty.fs55,Ty.ze55,Ty.sz55,Ty.ag52,Ty.sz52,Ty.co22,Ty.ag55,Ty.co23,Ty.co13,Ty.co24,Ty.co25,Ty.ze52,Ty.co26,Ty.co27,Ty.co28,Tryz.underlying4,Ty.co29,Ty.fo55_0,Ty.fo55_1,Ty.fo55_2,Ty.fo55_3⟩
theorem T8 {X : Ctx} (hP : X.P = Tryz.prog) : elemSz X.P 23 = some (9,1) ∧ zeroCells X.P 9 = some [(Value.string { data := #[] })] ∧ fieldsOf X.P 26 = some [(0,1),(1,1),(2,1),(3,1),(4,1),(5,1),(6,1)] ∧ zeroCells X.P 26 = some [(Value.int IntKind.i64 0),(Value.bool false),(Value.int IntKind.u64 0),(Value.slice none 0 0),(Value.slice none 0 0),(Value.slice none 0 0),(Value.string { data := #[] })] ∧ calleeOk X.P 10 = true ∧ calleeOk X.P 14 = true ∧ szOf X.P 26 = some 7 ∧ calleeOk X.P 27 = true ∧ fieldsOf X.P 50 = some [(0,1),(1,1)] ∧ zeroCells X.P 50 = some [(Value.int IntKind.i64 0),(Value.string { data := #[] })] ∧ fieldsOf X.P 52 = some [(0,2),(2,1),(3,1),(4,1)] ∧ zeroCells X.P 52 = some [(Value.int IntKind.i64 0),(Value.string { data := #[] }),(Value.int IntKind.u64 0),(Value.bool false),(Value.string { data := #[] })] ∧ calleeOk X.P 22 = true ∧ fieldOff X.P 26 3 = some 3 ∧ aggOf X.P 23 = some false ∧ szOf X.P 23 = some 1 ∧ X.P.underlying 23 = some (TypeDesc.slice 9) ∧ calleeOk X.P 29 = true ∧ calleeOk X.P 19 = true := by rw [hP];exact ⟨Ty.el23,Ty.ze9,Ty.fs26,Ty.ze26,Ty.co10,Ty.co14,Ty.sz26,Ty.co27,Ty.fs50,Ty.ze50,Ty.fs52,Ty.ze52,Ty.co22,Ty.fo26_3,Ty.ag23,Ty.sz23,Tryz.underlying23,Ty.co29,Ty.co19⟩
theorem T10 {X : Ctx} (hP : X.P = Tryz.prog) : aggOf X.P 26 = some true ∧ szOf X.P 26 = some 7 ∧ calleeOk X.P 17 = true ∧ zeroCells X.P 96 = some [(Value.pointer none),(Value.slice none 0 0)] ∧ fieldOff X.P 96 0 = some 0 ∧ calleeOk X.P 42 = true ∧ fieldOff X.P 26 0 = some 0 ∧ aggOf X.P 3 = some false ∧ szOf X.P 3 = some 1 ∧ X.P.underlying 3 = some (TypeDesc.int IntKind.i64) ∧ X.P.underlying 22 = some (TypeDesc.int IntKind.u64) ∧ isBytesT X.P 3 = false ∧ isStrT X.P 22 = false ∧ calleeOk X.P 43 = true ∧ fieldOff X.P 26 1 = some 1 ∧ aggOf X.P 4 = some false ∧ szOf X.P 4 = some 1 ∧ calleeOk X.P 44 = true ∧ fieldOff X.P 26 2 = some 2 ∧ aggOf X.P 22 = some false ∧ szOf X.P 22 = some 1 ∧ fieldOff X.P 26 3 = some 3 ∧ aggOf X.P 23 = some false ∧ szOf X.P 23 = some 1 ∧ calleeOk X.P 45 = true ∧ fieldOff X.P 26 4 = some 4 ∧ fieldOff X.P 26 5 = some 5 ∧ aggOf X.P 24 = some false ∧ szOf X.P 24 = some 1 ∧ X.P.underlying 24 = some (TypeDesc.slice 91) ∧ elemSz X.P 24 = some (91,2) ∧ aggOf X.P 91 = some true ∧ szOf X.P 91 = some 2 ∧ zeroCells X.P 91 = some [(Value.string { data := #[] }),(Value.int IntKind.u64 0)] ∧ fieldOff X.P 91 0 = some 0 ∧ aggOf X.P 9 = some false ∧ szOf X.P 9 = some 1 ∧ elemSz X.P 23 = some (9,1) ∧ zeroCells X.P 9 = some [(Value.string { data := #[] })] ∧ fieldOff X.P 91 1 = some 1 ∧ calleeOk X.P 46 = true ∧ fieldOff X.P 26 6 = some 6 := by rw [hP];exact ⟨Ty.ag26,Ty.sz26,Ty.co17,Ty.ze96,Ty.fo96_0,Ty.co42,Ty.fo26_0,Ty.ag3,Ty.sz3,Tryz.underlying3,Tryz.underlying22,Ty.ib3,Ty.is22,Ty.co43,Ty.fo26_1,Ty.ag4,Ty.sz4,Ty.co44,Ty.fo26_2,Ty.ag22,Ty.sz22,Ty.fo26_3,Ty.ag23,Ty.sz23,Ty.co45,Ty.fo26_4,Ty.fo26_5,Ty.ag24,Ty.sz24,Tryz.underlying24,Ty.el24,Ty.ag91,Ty.sz91,Ty.ze91,Ty.fo91_0,Ty.ag9,Ty.sz9,Ty.el23,Ty.ze9,Ty.fo91_1,Ty.co46,Ty.fo26_6⟩
theorem T13 {X : Ctx} (hP : X.P = Tryz.prog) : X.P.underlying 9 = some TypeDesc.string ∧ X.P.underlying 27 = some (TypeDesc.slice 5) ∧ isBytesT X.P 9 = false ∧ isStrT X.P 27 = false ∧ elemSz X.P 27 = some (5,1) ∧ aggOf X.P 5 = some false ∧ szOf X.P 5 = some 1 ∧ isBytesT X.P 27 = true ∧ isStrT X.P 9 = true := by rw [hP];exact ⟨Tryz.underlying9,Tryz.underlying27,Ty.ib9,Ty.is27,Ty.el27,Ty.ag5,Ty.sz5,Ty.ib27,Ty.is9⟩
theorem T14 {X : Ctx} (hP : X.P = Tryz.prog) : zeroCells X.P 26 = some [(Value.int IntKind.i64 0),(Value.bool false),(Value.int IntKind.u64 0),(Value.slice none 0 0),(Value.slice none 0 0),(Value.slice none 0 0),(Value.string { data := #[] })] ∧ zeroCells X.P 22 = some [(Value.int IntKind.u64 0)] ∧ calleeOk X.P 51 = true ∧ fieldsOf X.P 113 = some [(0,1),(1,1)] ∧ zeroCells X.P 113 = some [(Value.int IntKind.i64 0),Value.nilFunc] ∧ szOf X.P 113 = some 2 ∧ calleeOk X.P 54 = true ∧ mapInf X.P 118 = some ((TypeDesc.int IntKind.i64),(Value.agg #[(Value.int IntKind.i64 0),Value.nilFunc])) ∧ fieldOff X.P 26 2 = some 2 ∧ fieldOff X.P 26 3 = some 3 ∧ calleeOk X.P 57 = true ∧ fieldOff X.P 26 4 = some 4 ∧ aggOf X.P 113 = some true ∧ fieldOff X.P 26 6 = some 6 ∧ calleeOk X.P 53 = true ∧ calleeOk X.P 56 = true ∧ aggOf X.P 22 = some false ∧ szOf X.P 22 = some 1 ∧ X.P.underlying 22 = some (TypeDesc.int IntKind.u64) ∧ X.P.underlying 3 = some (TypeDesc.int IntKind.i64) ∧ isBytesT X.P 22 = false ∧ isStrT X.P 3 = false ∧ fieldOff X.P 26 0 = some 0 ∧ szOf X.P 3 = some 1 ∧ fieldOff X.P 26 1 = some 1 ∧ szOf X.P 4 = some 1 ∧ calleeOk X.P 55 = true ∧ aggOf X.P 26 = some true ∧ szOf X.P 26 = some 7 ∧ calleeOk X.P 17 = true ∧ fieldsOf X.P 26 = some [(0,1),(1,1),(2,1),(3,1),(4,1),(5,1),(6,1)] := by rw [hP];exact ⟨Ty.ze26,Ty.ze22,Ty.co51,Ty.fs113,Ty.ze113,Ty.sz113,Ty.co54,Ty.mi118,Ty.fo26_2,Ty.fo26_3,Ty.co57,Ty.fo26_4,Ty.ag113,Ty.fo26_6,Ty.co53,Ty.co56,Ty.ag22,Ty.sz22,Tryz.underlying22,Tryz.underlying3,Ty.ib22,Ty.is3,Ty.fo26_0,Ty.sz3,Ty.fo26_1,Ty.sz4,Ty.co55,Ty.ag26,Ty.sz26,Ty.co17,Ty.fs26⟩
theorem T17 {X : Ctx} (hP : X.P = Tryz.prog) : fieldOff X.P 26 5 = some 5 ∧ aggOf X.P 24 = some false ∧ szOf X.P 24 = some 1 ∧ X.P.underlying 24 = some (TypeDesc.slice 91) ∧ elemInf X.P 23 = some (9,1,16,(Value.string { data := #[] })) ∧ elemSz X.P 24 = some (91,2) ∧ aggOf X.P 91 = some true ∧ szOf X.P 91 = some 2 ∧ zeroCells X.P 91 = some [(Value.string { data := #[] }),(Value.int IntKind.u64 0)] ∧ fieldOff X.P 91 0 = some 0 ∧ aggOf X.P 9 = some false ∧ szOf X.P 9 = some 1 ∧ elemSz X.P 23 = some (9,1) ∧ zeroCells X.P 9 = some [(Value.string { data := #[] })] ∧ isStrT X.P 23 = false ∧ fieldOff X.P 26 0 = some 0 ∧ aggOf X.P 3 = some false ∧ szOf X.P 3 = some 1 ∧ calleeOk X.P 63 = true ∧ fieldOff X.P 26 3 = some 3 ∧ aggOf X.P 23 = some false ∧ szOf X.P 23 = some 1 ∧ calleeOk X.P 64 = true ∧ fieldOff X.P 26 4 = some 4 ∧ fieldOff X.P 26 6 = some 6 ∧ X.P.underlying 9 = some TypeDesc.string ∧ fieldOff X.P 26 2 = some 2 ∧ aggOf X.P 22 = some false ∧ szOf X.P 22 = some 1 ∧ fieldOff X.P 26 1 = some 1 ∧ aggOf X.P 4 = some false ∧ szOf X.P 4 = some 1 ∧ X.P.underlying 23 = some (TypeDesc.slice 9) := by rw [hP];exact ⟨Ty.fo26_5,Ty.ag24,Ty.sz24,Tryz.underlying24,Ty.ei23,Ty.el24,Ty.ag91,Ty.sz91,Ty.ze91,Ty.fo91_0,Ty.ag9,Ty.sz9,Ty.el23,Ty.ze9,Ty.is23,Ty.fo26_0,Ty.ag3,Ty.sz3,Ty.co63,Ty.fo26_3,Ty.ag23,Ty.sz23,Ty.co64,Ty.fo26_4,Ty.fo26_6,Tryz.underlying9,Ty.fo26_2,Ty.ag22,Ty.sz22,Ty.fo26_1,Ty.ag4,Ty.sz4,Tryz.underlying23⟩
theorem T19 {X : Ctx} (hP : X.P = Tryz.prog) : isStrT X.P 9 = true ∧ X.P.underlying 5 = some (TypeDesc.int IntKind.u8) ∧ X.P.underlying 3 = some (TypeDesc.int IntKind.i64) ∧ isBytesT X.P 5 = false ∧ isStrT X.P 3 = false := by rw [hP];exact ⟨Ty.is9,Tryz.underlying5,Tryz.underlying3,Ty.ib5,Ty.is3⟩
theorem T20 {X : Ctx} (hP : X.P = Tryz.prog) : isStrT X.P 9 = true ∧ X.P.underlying 5 = some (TypeDesc.int IntKind.u8) ∧ X.P.underlying 3 = some (TypeDesc.int IntKind.i64) ∧ isBytesT X.P 5 = false ∧ isStrT X.P 3 = false := by rw [hP];exact ⟨Ty.is9,Tryz.underlying5,Tryz.underlying3,Ty.ib5,Ty.is3⟩
theorem T21 {X : Ctx} (hP : X.P = Tryz.prog) : elemSz X.P 27 = some (5,1) ∧ zeroCells X.P 5 = some [(Value.int IntKind.u8 0)] ∧ X.P.underlying 27 = some (TypeDesc.slice 5) ∧ X.P.underlying 9 = some TypeDesc.string ∧ isBytesT X.P 27 = true ∧ isStrT X.P 9 = true ∧ elemSz X.P 23 = some (9,1) ∧ zeroCells X.P 9 = some [(Value.string { data := #[] })] ∧ aggOf X.P 9 = some false ∧ szOf X.P 9 = some 1 := by rw [hP];exact ⟨Ty.el27,Ty.ze5,Tryz.underlying27,Tryz.underlying9,Ty.ib27,Ty.is9,Ty.el23,Ty.ze9,Ty.ag9,Ty.sz9⟩
theorem T22 {X : Ctx} (hP : X.P = Tryz.prog) : aggOf X.P 52 = some true ∧ szOf X.P 52 = some 5 ∧ calleeOk X.P 69 = true ∧ zeroCells X.P 96 = some [(Value.pointer none),(Value.slice none 0 0)] ∧ fieldOff X.P 96 0 = some 0 ∧ calleeOk X.P 42 = true ∧ fieldOff X.P 52 0 = some 0 ∧ fieldOff X.P 50 0 = some 0 ∧ aggOf X.P 3 = some false ∧ szOf X.P 3 = some 1 ∧ X.P.underlying 3 = some (TypeDesc.int IntKind.i64) ∧ X.P.underlying 22 = some (TypeDesc.int IntKind.u64) ∧ isBytesT X.P 3 = false ∧ isStrT X.P 22 = false ∧ calleeOk X.P 43 = true ∧ fieldOff X.P 50 1 = some 1 ∧ aggOf X.P 9 = some false ∧ szOf X.P 9 = some 1 ∧ elemSz X.P 23 = some (9,1) ∧ zeroCells X.P 9 = some [(Value.string { data := #[] })] ∧ calleeOk X.P 45 = true ∧ fieldOff X.P 52 1 = some 2 ∧ aggOf X.P 22 = some false ∧ szOf X.P 22 = some 1 ∧ fieldOff X.P 52 2 = some 3 ∧ aggOf X.P 4 = some false ∧ szOf X.P 4 = some 1 ∧ calleeOk X.P 44 = true ∧ fieldOff X.P 52 3 = some 4 ∧ calleeOk X.P 46 = true := by rw [hP];exact ⟨Ty.ag52,Ty.sz52,Ty.co69,Ty.ze96,Ty.fo96_0,Ty.co42,Ty.fo52_0,Ty.fo50_0,Ty.ag3,Ty.sz3,Tryz.underlying3,Tryz.underlying22,Ty.ib3,Ty.is22,Ty.co43,Ty.fo50_1,Ty.ag9,Ty.sz9,Ty.el23,Ty.ze9,Ty.co45,Ty.fo52_1,Ty.ag22,Ty.sz22,Ty.fo52_2,Ty.ag4,Ty.sz4,Ty.co44,Ty.fo52_3,Ty.co46⟩
theorem T23 {X : Ctx} (hP : X.P = Tryz.prog) : aggOf X.P 55 = some true ∧ szOf X.P 55 = some 5 ∧ calleeOk X.P 70 = true ∧ fieldOff X.P 55 0 = some 0 ∧ fieldOff X.P 50 0 = some 0 ∧ aggOf X.P 3 = some false ∧ szOf X.P 3 = some 1 ∧ X.P.underlying 3 = some (TypeDesc.int IntKind.i64) ∧ X.P.underlying 22 = some (TypeDesc.int IntKind.u64) ∧ isBytesT X.P 3 = false ∧ isStrT X.P 22 = false ∧ calleeOk X.P 47 = true ∧ fieldOff X.P 50 1 = some 1 ∧ aggOf X.P 9 = some false ∧ szOf X.P 9 = some 1 ∧ calleeOk X.P 50 = true ∧ fieldOff X.P 55 1 = some 2 ∧ aggOf X.P 22 = some false ∧ szOf X.P 22 = some 1 ∧ fieldOff X.P 55 2 = some 3 ∧ aggOf X.P 4 = some false ∧ szOf X.P 4 = some 1 ∧ calleeOk X.P 48 = true ∧ fieldOff X.P 55 3 = some 4 := by rw [hP];exact ⟨Ty.ag55,Ty.sz55,Ty.co70,Ty.fo55_0,Ty.fo50_0,Ty.ag3,Ty.sz3,Tryz.underlying3,Tryz.underlying22,Ty.ib3,Ty.is22,Ty.co47,Ty.fo50_1,Ty.ag9,Ty.sz9,Ty.co50,Ty.fo55_1,Ty.ag22,Ty.sz22,Ty.fo55_2,Ty.ag4,Ty.sz4,Ty.co48,Ty.fo55_3⟩
theorem T24 {X : Ctx} (hP : X.P = Tryz.prog) : calleeOk X.P 47 = true := by rw [hP];exact Ty.co47
theorem T25 {X : Ctx} (hP : X.P = Tryz.prog) : zeroCells X.P 52 = some [(Value.int IntKind.i64 0),(Value.string { data := #[] }),(Value.int IntKind.u64 0),(Value.bool false),(Value.string { data := #[] })] ∧ zeroCells X.P 22 = some [(Value.int IntKind.u64 0)] ∧ calleeOk X.P 54 = true ∧ mapInf X.P 118 = some ((TypeDesc.int IntKind.i64),(Value.agg #[(Value.int IntKind.i64 0),Value.nilFunc])) ∧ fieldOff X.P 52 0 = some 0 ∧ fieldOff X.P 50 1 = some 1 ∧ calleeOk X.P 53 = true ∧ fieldOff X.P 52 1 = some 2 ∧ fieldOff X.P 52 3 = some 4 ∧ calleeOk X.P 56 = true ∧ aggOf X.P 22 = some false ∧ szOf X.P 22 = some 1 ∧ X.P.underlying 22 = some (TypeDesc.int IntKind.u64) ∧ X.P.underlying 3 = some (TypeDesc.int IntKind.i64) ∧ isBytesT X.P 22 = false ∧ isStrT X.P 3 = false ∧ fieldOff X.P 50 0 = some 0 ∧ szOf X.P 3 = some 1 ∧ fieldOff X.P 52 2 = some 3 ∧ szOf X.P 4 = some 1 ∧ calleeOk X.P 55 = true ∧ aggOf X.P 52 = some true ∧ szOf X.P 52 = some 5 ∧ calleeOk X.P 69 = true ∧ fieldsOf X.P 52 = some [(0,2),(2,1),(3,1),(4,1)] := by rw [hP];exact ⟨Ty.ze52,Ty.ze22,Ty.co54,Ty.mi118,Ty.fo52_0,Ty.fo50_1,Ty.co53,Ty.fo52_1,Ty.fo52_3,Ty.co56,Ty.ag22,Ty.sz22,Tryz.underlying22,Tryz.underlying3,Ty.ib22,Ty.is3,Ty.fo50_0,Ty.sz3,Ty.fo52_2,Ty.sz4,Ty.co55,Ty.ag52,Ty.sz52,Ty.co69,Ty.fs52⟩
theorem T26 {X : Ctx} (hP : X.P = Tryz.prog) : zeroCells X.P 55 = some [(Value.int IntKind.i64 0),(Value.string { data := #[] }),(Value.int IntKind.u64 0),(Value.bool false),(Value.string { data := #[] })] ∧ calleeOk X.P 58 = true ∧ calleeOk X.P 59 = true ∧ zeroCells X.P 126 = some [(Value.int IntKind.i64 0),(Value.int IntKind.i64 0),(Value.int IntKind.u64 0),(Value.string { data := #[] })] ∧ szOf X.P 126 = some 4 ∧ fieldOff X.P 126 2 = some 2 ∧ aggOf X.P 22 = some false ∧ szOf X.P 22 = some 1 ∧ fieldsOf X.P 55 = some [(0,2),(2,1),(3,1),(4,1)] ∧ szOf X.P 55 = some 5 ∧ X.P.underlying 22 = some (TypeDesc.int IntKind.u64) ∧ X.P.underlying 3 = some (TypeDesc.int IntKind.i64) ∧ isBytesT X.P 22 = false ∧ isStrT X.P 3 = false ∧ fieldOff X.P 126 3 = some 3 ∧ aggOf X.P 9 = some false ∧ szOf X.P 9 = some 1 ∧ fieldsOf X.P 50 = some [(0,1),(1,1)] ∧ zeroCells X.P 50 = some [(Value.int IntKind.i64 0),(Value.string { data := #[] })] ∧ aggOf X.P 55 = some true ∧ calleeOk X.P 70 = true := by rw [hP];exact ⟨Ty.ze55,Ty.co58,Ty.co59,Ty.ze126,Ty.sz126,Ty.fo126_2,Ty.ag22,Ty.sz22,Ty.fs55,Ty.sz55,Tryz.underlying22,Tryz.underlying3,Ty.ib22,Ty.is3,Ty.fo126_3,Ty.ag9,Ty.sz9,Ty.fs50,Ty.ze50,Ty.ag55,Ty.co70⟩
theorem T27 {X : Ctx} (hP : X.P = Tryz.prog) : zeroCells X.P 22 = some [(Value.int IntKind.u64 0)] ∧ calleeOk X.P 54 = true ∧ mapInf X.P 118 = some ((TypeDesc.int IntKind.i64),(Value.agg #[(Value.int IntKind.i64 0),Value.nilFunc])) ∧ calleeOk X.P 56 = true ∧ calleeOk X.P 55 = true ∧ aggOf X.P 22 = some false ∧ szOf X.P 22 = some 1 := by rw [hP];exact ⟨Ty.ze22,Ty.co54,Ty.mi118,Ty.co56,Ty.co55,Ty.ag22,Ty.sz22⟩
theorem T28 {X : Ctx} (hP : X.P = Tryz.prog) : calleeOk X.P 58 = true ∧ calleeOk X.P 59 = true ∧ zeroCells X.P 126 = some [(Value.int IntKind.i64 0),(Value.int IntKind.i64 0),(Value.int IntKind.u64 0),(Value.string { data := #[] })] ∧ szOf X.P 126 = some 4 ∧ fieldOff X.P 126 2 = some 2 ∧ aggOf X.P 22 = some false ∧ szOf X.P 22 = some 1 := by rw [hP];exact ⟨Ty.co58,Ty.co59,Ty.ze126,Ty.sz126,Ty.fo126_2,Ty.ag22,Ty.sz22⟩
theorem T29 {X : Ctx} (hP : X.P = Tryz.prog) : zeroCells X.P 96 = some [(Value.pointer none),(Value.slice none 0 0)] ∧ fieldOff X.P 96 0 = some 0 ∧ calleeOk X.P 42 = true ∧ calleeOk X.P 43 = true ∧ calleeOk X.P 46 = true := by rw [hP];exact ⟨Ty.ze96,Ty.fo96_0,Ty.co42,Ty.co43,Ty.co46⟩
theorem T39 {X : Ctx} (hP : X.P = Tryz.prog) : fieldsOf X.P 109 = some [(0,1),(1,1),(2,1),(3,1)] ∧ zeroCells X.P 109 = some [(Value.int IntKind.i64 0),(Value.int IntKind.i64 0),(Value.int IntKind.u64 0),(Value.string { data := #[] })] ∧ calleeOk X.P 80 = true := by rw [hP];exact ⟨Ty.fs109,Ty.ze109,Ty.co80⟩
theorem T42 {X : Ctx} (hP : X.P = Tryz.prog) : calleeOk X.P 81 = true ∧ fieldOff X.P 94 1 = some 1 ∧ aggOf X.P 27 = some false ∧ szOf X.P 27 = some 1 ∧ elemSz X.P 27 = some (5,1) ∧ zeroCells X.P 5 = some [(Value.int IntKind.u8 0)] ∧ elemInf X.P 27 = some (5,1,1,(Value.int IntKind.u8 0)) ∧ isStrT X.P 27 = false := by rw [hP];exact ⟨Ty.co81,Ty.fo94_1,Ty.ag27,Ty.sz27,Ty.el27,Ty.ze5,Ty.ei27,Ty.is27⟩
theorem T43 {X : Ctx} (hP : X.P = Tryz.prog) : fieldOff X.P 96 0 = some 0 ∧ calleeOk X.P 39 = true ∧ calleeOk X.P 82 = true := by rw [hP];exact ⟨Ty.fo96_0,Ty.co39,Ty.co82⟩
theorem T44 {X : Ctx} (hP : X.P = Tryz.prog) : calleeOk X.P 43 = true := by rw [hP];exact Ty.co43
theorem T45 {X : Ctx} (hP : X.P = Tryz.prog) : X.P.underlying 23 = some (TypeDesc.slice 9) ∧ elemSz X.P 23 = some (9,1) ∧ aggOf X.P 9 = some false ∧ szOf X.P 9 = some 1 ∧ fieldOff X.P 96 0 = some 0 ∧ calleeOk X.P 83 = true ∧ calleeOk X.P 82 = true := by rw [hP];exact ⟨Tryz.underlying23,Ty.el23,Ty.ag9,Ty.sz9,Ty.fo96_0,Ty.co83,Ty.co82⟩
theorem T46 {X : Ctx} (hP : X.P = Tryz.prog) : fieldOff X.P 94 1 = some 1 ∧ aggOf X.P 27 = some false ∧ szOf X.P 27 = some 1 ∧ X.P.underlying 27 = some (TypeDesc.slice 5) := by rw [hP];exact ⟨Ty.fo94_1,Ty.ag27,Ty.sz27,Tryz.underlying27⟩
theorem T47 {X : Ctx} (hP : X.P = Tryz.prog) : calleeOk X.P 84 = true := by rw [hP];exact Ty.co84
theorem T48 {X : Ctx} (hP : X.P = Tryz.prog) : calleeOk X.P 84 = true := by rw [hP];exact Ty.co84
theorem T50 {X : Ctx} (hP : X.P = Tryz.prog) : fieldsOf X.P 126 = some [(0,1),(1,1),(2,1),(3,1)] ∧ zeroCells X.P 126 = some [(Value.int IntKind.i64 0),(Value.int IntKind.i64 0),(Value.int IntKind.u64 0),(Value.string { data := #[] })] ∧ calleeOk X.P 85 = true := by rw [hP];exact ⟨Ty.fs126,Ty.ze126,Ty.co85⟩
theorem T51 {X : Ctx} (hP : X.P = Tryz.prog) : zeroCells X.P 91 = some [(Value.string { data := #[] }),(Value.int IntKind.u64 0)] ∧ fieldOff X.P 109 3 = some 3 ∧ aggOf X.P 9 = some false ∧ szOf X.P 9 = some 1 ∧ fieldOff X.P 91 0 = some 0 ∧ calleeOk X.P 53 = true ∧ mapInf X.P 118 = some ((TypeDesc.int IntKind.i64),(Value.agg #[(Value.int IntKind.i64 0),Value.nilFunc])) ∧ fieldOff X.P 91 1 = some 1 ∧ calleeOk X.P 54 = true ∧ calleeOk X.P 52 = true ∧ fieldOff X.P 26 5 = some 5 ∧ aggOf X.P 24 = some false ∧ szOf X.P 24 = some 1 ∧ aggOf X.P 91 = some true ∧ szOf X.P 91 = some 2 ∧ elemSz X.P 24 = some (91,2) ∧ elemInf X.P 24 = some (91,2,24,(Value.agg #[(Value.string { data := #[] }),(Value.int IntKind.u64 0)])) ∧ isStrT X.P 24 = false ∧ calleeOk X.P 55 = true := by rw [hP];exact ⟨Ty.ze91,Ty.fo109_3,Ty.ag9,Ty.sz9,Ty.fo91_0,Ty.co53,Ty.mi118,Ty.fo91_1,Ty.co54,Ty.co52,Ty.fo26_5,Ty.ag24,Ty.sz24,Ty.ag91,Ty.sz91,Ty.el24,Ty.ei24,Ty.is24,Ty.co55⟩
theorem T52 {X : Ctx} (hP : X.P = Tryz.prog) : calleeOk X.P 86 = true ∧ aggOf X.P 98 = some false ∧ szOf X.P 98 = some 1 ∧ X.P.underlying 151 = some (TypeDesc.slice 109) ∧ elemSz X.P 151 = some (109,4) ∧ aggOf X.P 109 = some true ∧ szOf X.P 109 = some 4 ∧ zeroCells X.P 109 = some [(Value.int IntKind.i64 0),(Value.int IntKind.i64 0),(Value.int IntKind.u64 0),(Value.string { data := #[] })] ∧ fieldOff X.P 109 0 = some 0 ∧ aggOf X.P 3 = some false ∧ szOf X.P 3 = some 1 ∧ mapInf X.P 118 = some ((TypeDesc.int IntKind.i64),(Value.agg #[(Value.int IntKind.i64 0),Value.nilFunc])) ∧ zeroCells X.P 113 = some [(Value.int IntKind.i64 0),Value.nilFunc] ∧ szOf X.P 113 = some 2 ∧ fieldOff X.P 113 0 = some 0 ∧ fieldOff X.P 109 1 = some 1 ∧ fieldOff X.P 113 1 = some 1 ∧ aggOf X.P 111 = some false ∧ szOf X.P 111 = some 1 := by rw [hP];exact ⟨Ty.co86,Ty.ag98,Ty.sz98,Tryz.underlying151,Ty.el151,Ty.ag109,Ty.sz109,Ty.ze109,Ty.fo109_0,Ty.ag3,Ty.sz3,Ty.mi118,Ty.ze113,Ty.sz113,Ty.fo113_0,Ty.fo109_1,Ty.fo113_1,Ty.ag111,Ty.sz111⟩
theorem T53 {X : Ctx} (hP : X.P = Tryz.prog) : zeroCells X.P 113 = some [(Value.int IntKind.i64 0),Value.nilFunc] ∧ calleeOk X.P 87 = true ∧ fieldsOf X.P 113 = some [(0,1),(1,1)] ∧ szOf X.P 113 = some 2 := by rw [hP];exact ⟨Ty.ze113,Ty.co87,Ty.fs113,Ty.sz113⟩
theorem T54 {X : Ctx} (hP : X.P = Tryz.prog) : zeroCells X.P 113 = some [(Value.int IntKind.i64 0),Value.nilFunc] ∧ calleeOk X.P 88 = true ∧ fieldsOf X.P 113 = some [(0,1),(1,1)] ∧ szOf X.P 113 = some 2 := by rw [hP];exact ⟨Ty.ze113,Ty.co88,Ty.fs113,Ty.sz113⟩
theorem T55 {X : Ctx} (hP : X.P = Tryz.prog) : aggOf X.P 98 = some false ∧ szOf X.P 98 = some 1 ∧ calleeOk X.P 89 = true := by rw [hP];exact ⟨Ty.ag98,Ty.sz98,Ty.co89⟩
theorem T56 {X : Ctx} (hP : X.P = Tryz.prog) : calleeOk X.P 19 = true ∧ aggOf X.P 98 = some false ∧ szOf X.P 98 = some 1 ∧ isStrT X.P 9 = true ∧ calleeOk X.P 52 = true := by rw [hP];exact ⟨Ty.co19,Ty.ag98,Ty.sz98,Ty.is9,Ty.co52⟩
theorem T57 {X : Ctx} (hP : X.P = Tryz.prog) : zeroCells X.P 113 = some [(Value.int IntKind.i64 0),Value.nilFunc] ∧ calleeOk X.P 90 = true ∧ fieldsOf X.P 113 = some [(0,1),(1,1)] ∧ szOf X.P 113 = some 2 := by rw [hP];exact ⟨Ty.ze113,Ty.co90,Ty.fs113,Ty.sz113⟩
theorem T58 {X : Ctx} (hP : X.P = Tryz.prog) : calleeOk X.P 20 = true ∧ isStrT X.P 9 = true ∧ calleeOk X.P 61 = true := by rw [hP];exact ⟨Ty.co20,Ty.is9,Ty.co61⟩
theorem T59 {X : Ctx} (hP : X.P = Tryz.prog) : zeroCells X.P 126 = some [(Value.int IntKind.i64 0),(Value.int IntKind.i64 0),(Value.int IntKind.u64 0),(Value.string { data := #[] })] ∧ fieldsOf X.P 126 = some [(0,1),(1,1),(2,1),(3,1)] ∧ szOf X.P 126 = some 4 ∧ X.P.underlying 123 = some (TypeDesc.slice 126) ∧ elemSz X.P 123 = some (126,4) ∧ fieldOff X.P 126 0 = some 0 ∧ aggOf X.P 3 = some false ∧ szOf X.P 3 = some 1 ∧ fieldOff X.P 126 1 = some 1 ∧ aggOf X.P 126 = some true := by rw [hP];exact ⟨Ty.ze126,Ty.fs126,Ty.sz126,Tryz.underlying123,Ty.el123,Ty.fo126_0,Ty.ag3,Ty.sz3,Ty.fo126_1,Ty.ag126⟩
theorem T61 {X : Ctx} (hP : X.P = Tryz.prog) : X.P.underlying 9 = some TypeDesc.string ∧ calleeOk X.P 91 = true ∧ isStrT X.P 9 = true ∧ X.P.underlying 22 = some (TypeDesc.int IntKind.u64) ∧ X.P.underlying 3 = some (TypeDesc.int IntKind.i64) ∧ isBytesT X.P 22 = false ∧ isStrT X.P 3 = false ∧ fieldsOf X.P 126 = some [(0,1),(1,1),(2,1),(3,1)] ∧ zeroCells X.P 126 = some [(Value.int IntKind.i64 0),(Value.int IntKind.i64 0),(Value.int IntKind.u64 0),(Value.string { data := #[] })] ∧ szOf X.P 126 = some 4 ∧ fieldOff X.P 126 1 = some 1 ∧ aggOf X.P 3 = some false ∧ szOf X.P 3 = some 1 ∧ fieldOff X.P 126 2 = some 2 ∧ szOf X.P 22 = some 1 ∧ isBytesT X.P 3 = false ∧ isStrT X.P 22 = false ∧ fieldOff X.P 126 3 = some 3 ∧ szOf X.P 9 = some 1 ∧ aggOf X.P 126 = some true ∧ elemSz X.P 123 = some (126,4) ∧ elemInf X.P 123 = some (126,4,40,(Value.agg #[(Value.int IntKind.i64 0),(Value.int IntKind.i64 0),(Value.int IntKind.u64 0),(Value.string { data := #[] })])) ∧ isStrT X.P 123 = false := by rw [hP];exact ⟨Tryz.underlying9,Ty.co91,Ty.is9,Tryz.underlying22,Tryz.underlying3,Ty.ib22,Ty.is3,Ty.fs126,Ty.ze126,Ty.sz126,Ty.fo126_1,Ty.ag3,Ty.sz3,Ty.fo126_2,Ty.sz22,Ty.ib3,Ty.is22,Ty.fo126_3,Ty.sz9,Ty.ag126,Ty.el123,Ty.ei123,Ty.is123⟩
theorem T64 {X : Ctx} (hP : X.P = Tryz.prog) : X.P.underlying 23 = some (TypeDesc.slice 9) ∧ calleeOk X.P 93 = true ∧ calleeOk X.P 92 = true := by rw [hP];exact ⟨Tryz.underlying23,Ty.co93,Ty.co92⟩
theorem T65 {X : Ctx} (hP : X.P = Tryz.prog) : calleeOk X.P 66 = true := by rw [hP];exact Ty.co66
theorem T66 {X : Ctx} (hP : X.P = Tryz.prog) : X.P.underlying 9 = some TypeDesc.string ∧ calleeOk X.P 94 = true := by rw [hP];exact ⟨Tryz.underlying9,Ty.co94⟩
theorem T67 {X : Ctx} (hP : X.P = Tryz.prog) : X.P.underlying 9 = some TypeDesc.string ∧ isStrT X.P 9 = true := by rw [hP];exact ⟨Tryz.underlying9,Ty.is9⟩
theorem T69 {X : Ctx} (hP : X.P = Tryz.prog) : fieldOff X.P 52 0 = some 0 ∧ aggOf X.P 50 = some true ∧ szOf X.P 50 = some 2 ∧ calleeOk X.P 95 = true ∧ fieldOff X.P 50 1 = some 1 ∧ aggOf X.P 9 = some false ∧ szOf X.P 9 = some 1 ∧ fieldOff X.P 52 1 = some 2 ∧ aggOf X.P 22 = some false ∧ szOf X.P 22 = some 1 ∧ fieldOff X.P 52 3 = some 4 ∧ X.P.underlying 9 = some TypeDesc.string ∧ fieldOff X.P 52 2 = some 3 ∧ aggOf X.P 4 = some false ∧ szOf X.P 4 = some 1 := by rw [hP];exact ⟨Ty.fo52_0,Ty.ag50,Ty.sz50,Ty.co95,Ty.fo50_1,Ty.ag9,Ty.sz9,Ty.fo52_1,Ty.ag22,Ty.sz22,Ty.fo52_3,Tryz.underlying9,Ty.fo52_2,Ty.ag4,Ty.sz4⟩
theorem T70 {X : Ctx} (hP : X.P = Tryz.prog) : fieldOff X.P 55 0 = some 0 ∧ aggOf X.P 50 = some true ∧ szOf X.P 50 = some 2 ∧ calleeOk X.P 96 = true ∧ fieldOff X.P 50 1 = some 1 ∧ aggOf X.P 9 = some false ∧ szOf X.P 9 = some 1 ∧ fieldOff X.P 55 1 = some 2 ∧ aggOf X.P 22 = some false ∧ szOf X.P 22 = some 1 ∧ fieldOff X.P 55 3 = some 4 ∧ X.P.underlying 9 = some TypeDesc.string ∧ fieldOff X.P 55 2 = some 3 ∧ aggOf X.P 4 = some false ∧ szOf X.P 4 = some 1 := by rw [hP];exact ⟨Ty.fo55_0,Ty.ag50,Ty.sz50,Ty.co96,Ty.fo50_1,Ty.ag9,Ty.sz9,Ty.fo55_1,Ty.ag22,Ty.sz22,Ty.fo55_3,Tryz.underlying9,Ty.fo55_2,Ty.ag4,Ty.sz4⟩
theorem T80 {X : Ctx} (hP : X.P = Tryz.prog) : fieldOff X.P 109 0 = some 0 ∧ aggOf X.P 3 = some false ∧ szOf X.P 3 = some 1 ∧ fieldOff X.P 109 1 = some 1 ∧ fieldOff X.P 109 2 = some 2 ∧ aggOf X.P 22 = some false ∧ szOf X.P 22 = some 1 ∧ calleeOk X.P 98 = true ∧ mapInf X.P 160 = some ((TypeDesc.int IntKind.i64),(Value.int IntKind.i64 0)) ∧ fieldOff X.P 109 3 = some 3 ∧ aggOf X.P 9 = some false ∧ szOf X.P 9 = some 1 ∧ X.P.underlying 9 = some TypeDesc.string ∧ X.P.underlying 3 = some (TypeDesc.int IntKind.i64) ∧ X.P.underlying 22 = some (TypeDesc.int IntKind.u64) ∧ isBytesT X.P 3 = false ∧ isStrT X.P 22 = false ∧ calleeOk X.P 99 = true := by rw [hP];exact ⟨Ty.fo109_0,Ty.ag3,Ty.sz3,Ty.fo109_1,Ty.fo109_2,Ty.ag22,Ty.sz22,Ty.co98,Ty.mi160,Ty.fo109_3,Ty.ag9,Ty.sz9,Tryz.underlying9,Tryz.underlying3,Tryz.underlying22,Ty.ib3,Ty.is22,Ty.co99⟩
theorem T81 {X : Ctx} (hP : X.P = Tryz.prog) : fieldOff X.P 94 0 = some 0 ∧ aggOf X.P 92 = some false ∧ szOf X.P 92 = some 1 ∧ X.P.underlying 92 = some (TypeDesc.pointer 94) ∧ X.P.underlying 165 = some TypeDesc.unsafePointer ∧ isBytesT X.P 92 = false ∧ isStrT X.P 165 = false ∧ calleeOk X.P 100 = false ∧ isBytesT X.P 165 = false ∧ isStrT X.P 92 = false := by rw [hP];exact ⟨Ty.fo94_0,Ty.ag92,Ty.sz92,Tryz.underlying92,Tryz.underlying165,Ty.ib92,Ty.is165,Ty.cx100,Ty.ib165,Ty.is92⟩
theorem T82 {X : Ctx} (hP : X.P = Tryz.prog) : calleeOk X.P 81 = true ∧ fieldOff X.P 94 1 = some 1 ∧ aggOf X.P 27 = some false ∧ szOf X.P 27 = some 1 ∧ elemInf X.P 27 = some (5,1,1,(Value.int IntKind.u8 0)) ∧ isStrT X.P 9 = true ∧ X.P.underlying 9 = some TypeDesc.string := by rw [hP];exact ⟨Ty.co81,Ty.fo94_1,Ty.ag27,Ty.sz27,Ty.ei27,Ty.is9,Tryz.underlying9⟩
theorem T83 {X : Ctx} (hP : X.P = Tryz.prog) : fieldsOf X.P 109 = some [(0,1),(1,1),(2,1),(3,1)] ∧ zeroCells X.P 109 = some [(Value.int IntKind.i64 0),(Value.int IntKind.i64 0),(Value.int IntKind.u64 0),(Value.string { data := #[] })] ∧ calleeOk X.P 80 = true := by rw [hP];exact ⟨Ty.fs109,Ty.ze109,Ty.co80⟩
theorem T84 {X : Ctx} (hP : X.P = Tryz.prog) : fieldsOf X.P 126 = some [(0,1),(1,1),(2,1),(3,1)] ∧ zeroCells X.P 126 = some [(Value.int IntKind.i64 0),(Value.int IntKind.i64 0),(Value.int IntKind.u64 0),(Value.string { data := #[] })] ∧ calleeOk X.P 85 = true := by rw [hP];exact ⟨Ty.fs126,Ty.ze126,Ty.co85⟩
theorem T85 {X : Ctx} (hP : X.P = Tryz.prog) : fieldOff X.P 126 0 = some 0 ∧ aggOf X.P 3 = some false ∧ szOf X.P 3 = some 1 ∧ fieldOff X.P 126 1 = some 1 ∧ fieldOff X.P 126 2 = some 2 ∧ aggOf X.P 22 = some false ∧ szOf X.P 22 = some 1 ∧ X.P.underlying 3 = some (TypeDesc.int IntKind.i64) ∧ X.P.underlying 22 = some (TypeDesc.int IntKind.u64) ∧ isBytesT X.P 3 = false ∧ isStrT X.P 22 = false ∧ calleeOk X.P 101 = true ∧ fieldOff X.P 126 3 = some 3 ∧ aggOf X.P 9 = some false ∧ szOf X.P 9 = some 1 ∧ X.P.underlying 9 = some TypeDesc.string := by rw [hP];exact ⟨Ty.fo126_0,Ty.ag3,Ty.sz3,Ty.fo126_1,Ty.fo126_2,Ty.ag22,Ty.sz22,Tryz.underlying3,Tryz.underlying22,Ty.ib3,Ty.is22,Ty.co101,Ty.fo126_3,Ty.ag9,Ty.sz9,Tryz.underlying9⟩
theorem T87 {X : Ctx} (hP : X.P = Tryz.prog) : aggOf X.P 115 = some false ∧ szOf X.P 115 = some 1 ∧ fieldOff X.P 109 3 = some 3 ∧ aggOf X.P 9 = some false ∧ szOf X.P 9 = some 1 := by rw [hP];exact ⟨Ty.ag115,Ty.sz115,Ty.fo109_3,Ty.ag9,Ty.sz9⟩
theorem T88 {X : Ctx} (hP : X.P = Tryz.prog) : aggOf X.P 117 = some false ∧ szOf X.P 117 = some 1 ∧ fieldOff X.P 109 2 = some 2 ∧ aggOf X.P 22 = some false ∧ szOf X.P 22 = some 1 := by rw [hP];exact ⟨Ty.ag117,Ty.sz117,Ty.fo109_2,Ty.ag22,Ty.sz22⟩
theorem T90 {X : Ctx} (hP : X.P = Tryz.prog) : aggOf X.P 122 = some false ∧ szOf X.P 122 = some 1 ∧ aggOf X.P 23 = some false ∧ szOf X.P 23 = some 1 ∧ fieldOff X.P 109 3 = some 3 ∧ aggOf X.P 9 = some false ∧ szOf X.P 9 = some 1 ∧ elemSz X.P 23 = some (9,1) ∧ zeroCells X.P 9 = some [(Value.string { data := #[] })] ∧ elemInf X.P 23 = some (9,1,16,(Value.string { data := #[] })) ∧ isStrT X.P 23 = false := by rw [hP];exact ⟨Ty.ag122,Ty.sz122,Ty.ag23,Ty.sz23,Ty.fo109_3,Ty.ag9,Ty.sz9,Ty.el23,Ty.ze9,Ty.ei23,Ty.is23⟩
theorem T91 {X : Ctx} (hP : X.P = Tryz.prog) : X.P.underlying 9 = some TypeDesc.string ∧ isStrT X.P 9 = true ∧ X.P.underlying 5 = some (TypeDesc.int IntKind.u8) ∧ X.P.underlying 22 = some (TypeDesc.int IntKind.u64) ∧ isBytesT X.P 5 = false ∧ isStrT X.P 22 = false := by rw [hP];exact ⟨Tryz.underlying9,Ty.is9,Tryz.underlying5,Tryz.underlying22,Ty.ib5,Ty.is22⟩
theorem T92 {X : Ctx} (hP : X.P = Tryz.prog) : calleeOk X.P 106 = true := by rw [hP];exact Ty.co106
theorem T93 {X : Ctx} (hP : X.P = Tryz.prog) : aggOf X.P 135 = some false ∧ szOf X.P 135 = some 1 := by rw [hP];exact ⟨Ty.ag135,Ty.sz135⟩
theorem T95 {X : Ctx} (hP : X.P = Tryz.prog) : fieldOff X.P 50 0 = some 0 ∧ aggOf X.P 3 = some false ∧ szOf X.P 3 = some 1 ∧ fieldOff X.P 50 1 = some 1 ∧ aggOf X.P 9 = some false ∧ szOf X.P 9 = some 1 ∧ calleeOk X.P 66 = true := by rw [hP];exact ⟨Ty.fo50_0,Ty.ag3,Ty.sz3,Ty.fo50_1,Ty.ag9,Ty.sz9,Ty.co66⟩
theorem T96 {X : Ctx} (hP : X.P = Tryz.prog) : fieldOff X.P 50 1 = some 1 ∧ aggOf X.P 9 = some false ∧ szOf X.P 9 = some 1 ∧ calleeOk X.P 67 = true ∧ fieldOff X.P 50 0 = some 0 ∧ aggOf X.P 3 = some false ∧ szOf X.P 3 = some 1 := by rw [hP];exact ⟨Ty.fo50_1,Ty.ag9,Ty.sz9,Ty.co67,Ty.fo50_0,Ty.ag3,Ty.sz3⟩
theorem T98 {X : Ctx} (hP : X.P = Tryz.prog) : mapInf X.P 160 = some ((TypeDesc.int IntKind.i64),(Value.int IntKind.i64 0)) := by rw [hP];exact Ty.mi160
theorem T99 {X : Ctx} (hP : X.P = Tryz.prog) : elemInf X.P 27 = some (5,1,1,(Value.int IntKind.u8 0)) ∧ X.P.underlying 22 = some (TypeDesc.int IntKind.u64) ∧ X.P.underlying 5 = some (TypeDesc.int IntKind.u8) ∧ isBytesT X.P 22 = false ∧ isStrT X.P 5 = false ∧ elemSz X.P 27 = some (5,1) ∧ zeroCells X.P 5 = some [(Value.int IntKind.u8 0)] ∧ isStrT X.P 27 = false ∧ X.P.underlying 27 = some (TypeDesc.slice 5) ∧ X.P.underlying 9 = some TypeDesc.string ∧ isBytesT X.P 27 = true ∧ isStrT X.P 9 = true := by rw [hP];exact ⟨Ty.ei27,Tryz.underlying22,Tryz.underlying5,Ty.ib22,Ty.is5,Ty.el27,Ty.ze5,Ty.is27,Tryz.underlying27,Tryz.underlying9,Ty.ib27,Ty.is9⟩
theorem T101 {X : Ctx} (hP : X.P = Tryz.prog) : X.P.underlying 22 = some (TypeDesc.int IntKind.u64) ∧ X.P.underlying 5 = some (TypeDesc.int IntKind.u8) ∧ isBytesT X.P 22 = false ∧ isStrT X.P 5 = false ∧ elemSz X.P 27 = some (5,1) ∧ zeroCells X.P 5 = some [(Value.int IntKind.u8 0)] ∧ elemInf X.P 27 = some (5,1,1,(Value.int IntKind.u8 0)) ∧ isStrT X.P 27 = false ∧ X.P.underlying 27 = some (TypeDesc.slice 5) ∧ X.P.underlying 9 = some TypeDesc.string ∧ isBytesT X.P 27 = true ∧ isStrT X.P 9 = true := by rw [hP];exact ⟨Tryz.underlying22,Tryz.underlying5,Ty.ib22,Ty.is5,Ty.el27,Ty.ze5,Ty.ei27,Ty.is27,Tryz.underlying27,Tryz.underlying9,Ty.ib27,Ty.is9⟩
theorem T106 {X : Ctx} (hP : X.P = Tryz.prog) : X.P.underlying 23 = some (TypeDesc.slice 9) ∧ elemSz X.P 23 = some (9,1) ∧ aggOf X.P 9 = some false ∧ szOf X.P 9 = some 1 := by rw [hP];exact ⟨Tryz.underlying23,Ty.el23,Ty.ag9,Ty.sz9⟩
theorem T115 {X : Ctx} (hP : X.P = Tryz.prog) : zeroCells X.P 109 = some [(Value.int IntKind.i64 0),(Value.int IntKind.i64 0),(Value.int IntKind.u64 0),(Value.string { data := #[] })] ∧ calleeOk X.P 121 = true ∧ aggOf X.P 109 = some true ∧ szOf X.P 109 = some 4 ∧ aggOf X.P 98 = some false ∧ szOf X.P 98 = some 1 ∧ X.P.underlying 22 = some (TypeDesc.int IntKind.u64) ∧ X.P.underlying 3 = some (TypeDesc.int IntKind.i64) ∧ isBytesT X.P 22 = false ∧ isStrT X.P 3 = false ∧ fieldOff X.P 109 0 = some 0 ∧ szOf X.P 3 = some 1 ∧ fieldOff X.P 109 1 = some 1 ∧ isStrT X.P 9 = true ∧ calleeOk X.P 98 = true ∧ aggOf X.P 3 = some false ∧ mapInf X.P 160 = some ((TypeDesc.int IntKind.i64),(Value.int IntKind.i64 0)) ∧ isBytesT X.P 3 = false ∧ isStrT X.P 22 = false ∧ fieldOff X.P 109 2 = some 2 ∧ szOf X.P 22 = some 1 ∧ X.P.underlying 9 = some TypeDesc.string ∧ fieldOff X.P 109 3 = some 3 ∧ szOf X.P 9 = some 1 := by rw [hP];exact ⟨Ty.ze109,Ty.co121,Ty.ag109,Ty.sz109,Ty.ag98,Ty.sz98,Tryz.underlying22,Tryz.underlying3,Ty.ib22,Ty.is3,Ty.fo109_0,Ty.sz3,Ty.fo109_1,Ty.is9,Ty.co98,Ty.ag3,Ty.mi160,Ty.ib3,Ty.is22,Ty.fo109_2,Ty.sz22,Tryz.underlying9,Ty.fo109_3,Ty.sz9⟩
theorem T121 {X : Ctx} (hP : X.P = Tryz.prog) : X.P.underlying 9 = some TypeDesc.string ∧ isStrT X.P 9 = true ∧ X.P.underlying 5 = some (TypeDesc.int IntKind.u8) ∧ X.P.underlying 22 = some (TypeDesc.int IntKind.u64) ∧ isBytesT X.P 5 = false ∧ isStrT X.P 22 = false := by rw [hP];exact ⟨Tryz.underlying9,Ty.is9,Tryz.underlying5,Tryz.underlying22,Ty.ib5,Ty.is22⟩
end Go.Proofs.YtbdacbcpniegiaaGreatDoor.Ty
namespace Go.Proofs.YtbdacbcpniegiaaGreatDoor
open Go Go.RowKit Go.Extern.Stop Go.Stop Go.Extern Go.Proofs
theorem isTypeOf (v : Value) (w : World) : (Extern.ReflectliteType.typeOf #[.iface 211 v]).run Tryz.prog w = .ok (.iface 189 (.agg #[.pointer (some ⟨7,211,none⟩)])) w := by kernel_rfl
theorem isComparable (w : World) : (callFunc 152 #[.agg #[.pointer (some ⟨7,211,none⟩)]]).run Tryz.prog w = .ok (.value (.bool true)) w := by kernel_rfl
theorem isMethodComparable (v : Value) (w : World) : (Go.method 345 189 v "Comparable").run Tryz.prog w = .ok (152,v) w := by kernel_rfl
theorem isComp : (Tryz.prog.info? 211).map (·.comparable) = some true := by kernel_rfl
theorem isSize : (Tryz.prog.info? 235).map (·.size) = some 1 := by kernel_rfl
theorem noIsE (v : Value) (xT : TypeId) (w : World) : (Instr.typeAssert (.iface 211 v) xT 191 true).run Tryz.prog w = .ok (.tuple #[.nilIface,.bool false]) w := run_typeAssert_lacksB Tryz.underlying191 (by kernel_rfl) (by kernel_rfl) v xT w
theorem noUnwrapE (v : Value) (xT : TypeId) (w : World) : (Instr.typeAssert (.iface 211 v) xT 193 true).run Tryz.prog w = .ok (.tuple #[.nilIface,.bool false]) w := run_typeAssert_lacksB Tryz.underlying193 (by kernel_rfl) (by kernel_rfl) v xT w
theorem noUnwrapsE (v : Value) (xT : TypeId) (w : World) : (Instr.typeAssert (.iface 211 v) xT 195 true).run Tryz.prog w = .ok (.tuple #[.nilIface,.bool false]) w := run_typeAssert_lacksB Tryz.underlying195 (by kernel_rfl) (by kernel_rfl) v xT w
theorem noIsA (v : Value) (xT : TypeId) (w : World) : (Instr.typeAssert (.iface 187 v) xT 191 true).run Tryz.prog w = .ok (.tuple #[.nilIface,.bool false]) w := run_typeAssert_lacksB Tryz.underlying191 (by kernel_rfl) (by kernel_rfl) v xT w
theorem hasUnwrapA (v : Value) (xT : TypeId) (w : World) : (Instr.typeAssert (.iface 187 v) xT 193 true).run Tryz.prog w = .ok (.tuple #[.iface 187 v,.bool true]) w := run_typeAssert_hasB Tryz.underlying193 (by kernel_rfl) v xT w
theorem methodUnwrap (v : Value) (w : World) : (Go.method 345 187 v "Unwrap").run Tryz.prog w = .ok (148,v) w := by kernel_rfl
theorem is_same (a : Addr) (w : World) : Calls Tryz.prog 89 #[.iface 211 (.pointer (some a)),.iface 211 (.pointer (some a))] w fun e w' => e = .returned (.bool true) ∧ w' = w := by
  obtain ⟨i,hi,hcmp⟩ := Option.map_eq_some_iff.1 isComp
  obtain ⟨j,hj,hjs⟩ := Option.map_eq_some_iff.1 isSize
  have h8 := @run_callFunc_extern Tryz.prog 104 _ Extern.ReflectliteType.typeOf Tryz.func104 (by kernel_rfl) (by kernel_rfl) (by kernel_rfl) (by kernel_rfl)
  have tT := isTypeOf
  have cT := isComparable
  have mR := isMethodComparable
  have heq := run_eql_iface_ptr_same (P := Tryz.prog) w a Tryz.underlying98 Tryz.underlying211 hi hcmp hj
  go_enter Tryz.func89,Tryz.ntmps89
  go_wp2
  refine wp_loop_rounds 1 ?_
  rw [rounds_succ]
  go_wp2
  go_ret
  exact ⟨rfl,rfl⟩
theorem is_nil (b : Addr) (w : World) : Calls Tryz.prog 89 #[.nilIface,.iface 211 (.pointer (some b))] w fun e w' => e = .returned (.bool false) ∧ w' = w := by
  have hn := run_eql_iface_nil_left (P := Tryz.prog) w 211 (.pointer (some b)) Tryz.underlying98
  go_enter Tryz.func89,Tryz.ntmps89
  go_wp2
  go_ret
  exact ⟨rfl,rfl⟩
theorem is_other (a b : Addr) (ca cb : Array Value) (ta tb : TypeId) (w : World) (hne : a ≠ b) (ha : w.heap[a.block]? = some (.cells ca ta (0,0))) (hb : w.heap[b.block]? = some (.cells cb tb (0,0))) :
    Calls Tryz.prog 89 #[.iface 211 (.pointer (some a)),.iface 211 (.pointer (some b))] w fun e w' => e = .returned (.bool false) ∧ w' = w := by
  obtain ⟨i,hi,hcmp⟩ := Option.map_eq_some_iff.1 isComp
  obtain ⟨j,hj,hjs⟩ := Option.map_eq_some_iff.1 isSize
  have h8 := @run_callFunc_extern Tryz.prog 104 _ Extern.ReflectliteType.typeOf Tryz.func104 (by kernel_rfl) (by kernel_rfl) (by kernel_rfl) (by kernel_rfl)
  have tT := isTypeOf
  have cT := isComparable
  have mR := isMethodComparable
  have nE := noIsE
  have uE := noUnwrapE
  have vE := noUnwrapsE
  have heq := run_eql_iface_ptr_other (P := Tryz.prog) w Tryz.underlying98 Tryz.underlying211 hi hcmp hj (by rw [hjs];decide) hne ha hb
  go_enter Tryz.func89,Tryz.ntmps89
  go_wp2
  refine wp_loop_rounds 1 ?_
  rw [rounds_succ]
  go_wp2
  go_ret
  exact ⟨rfl,rfl⟩
theorem unwrap_any (p : Int) (v : Value) (hv : v.oneCell' = true) (w : World) : Calls Tryz.prog 148 #[.agg #[.int .i64 p,v]] w fun e w' => e = .returned v ∧ w' = w.alloc (.cells #[.int .i64 p,v] 187) := by
  go_enter Tryz.func148,Tryz.ntmps148
  go_wp2
  go_ret
  exact ⟨rfl,rfl⟩
theorem is_at_same (p : Int) (b : Addr) (w : World) : Calls Tryz.prog 89 #[.iface 187 (.agg #[.int .i64 p,.iface 211 (.pointer (some b))]),.iface 211 (.pointer (some b))] w fun e w' => e = .returned (.bool true) ∧ Below w.heap.size w w' := by
  obtain ⟨i,hi,hcmp⟩ := Option.map_eq_some_iff.1 isComp
  obtain ⟨j,hj,hjs⟩ := Option.map_eq_some_iff.1 isSize
  have h8 := @run_callFunc_extern Tryz.prog 104 _ Extern.ReflectliteType.typeOf Tryz.func104 (by kernel_rfl) (by kernel_rfl) (by kernel_rfl) (by kernel_rfl)
  have tT := isTypeOf
  have cT := isComparable
  have mR := isMethodComparable
  have nE := noIsE
  have uE := noUnwrapE
  have vE := noUnwrapsE
  have nA := noIsA
  have uA := hasUnwrapA
  have mU := methodUnwrap
  have heq := run_eql_iface_ptr_same (P := Tryz.prog) (w.alloc (.cells #[.int .i64 p,.iface 211 (.pointer (some b))] 187)) b Tryz.underlying98 Tryz.underlying211 hi hcmp hj
  have hty := run_eql_iface_types (P := Tryz.prog) 187 211 (.agg #[.int .i64 p,.iface 211 (.pointer (some b))]) (.pointer (some b)) Tryz.underlying98 (by decide) w
  go_enter Tryz.func89,Tryz.ntmps89
  go_wp2
  refine wp_loop_rounds 2 ?_
  rw [rounds_succ]
  go_wp2_with (go_at_call 148;refine (unwrap_any p _ rfl _).mono ?_;rintro e w' ⟨rfl,rfl⟩)
  rw [rounds_succ]
  go_wp2
  go_ret
  exact ⟨rfl,(Below.refl _ _).alloc (Nat.le_refl _) _⟩
theorem is_at_other (p : Int) (a b : Addr) (ca cb : Array Value) (ta tb : TypeId) (w : World) (hne : a ≠ b) (ha : w.heap[a.block]? = some (.cells ca ta (0,0))) (hb : w.heap[b.block]? = some (.cells cb tb (0,0))) :
    Calls Tryz.prog 89 #[.iface 187 (.agg #[.int .i64 p,.iface 211 (.pointer (some a))]),.iface 211 (.pointer (some b))] w fun e w' => e = .returned (.bool false) ∧ Below w.heap.size w w' := by
  obtain ⟨i,hi,hcmp⟩ := Option.map_eq_some_iff.1 isComp
  obtain ⟨j,hj,hjs⟩ := Option.map_eq_some_iff.1 isSize
  have h8 := @run_callFunc_extern Tryz.prog 104 _ Extern.ReflectliteType.typeOf Tryz.func104 (by kernel_rfl) (by kernel_rfl) (by kernel_rfl) (by kernel_rfl)
  have tT := isTypeOf
  have cT := isComparable
  have mR := isMethodComparable
  have nE := noIsE
  have uE := noUnwrapE
  have vE := noUnwrapsE
  have nA := noIsA
  have uA := hasUnwrapA
  have mU := methodUnwrap
  have hB := (Below.refl w.heap.size w).alloc (Nat.le_refl _) (.cells #[.int .i64 p,.iface 211 (.pointer (some a))] 187)
  have ha' := (hB.block a.block (Array.getElem?_eq_some_iff.1 ha).1).trans ha
  have hb' := (hB.block b.block (Array.getElem?_eq_some_iff.1 hb).1).trans hb
  have heq := run_eql_iface_ptr_other (P := Tryz.prog) (w.alloc (.cells #[.int .i64 p,.iface 211 (.pointer (some a))] 187)) Tryz.underlying98 Tryz.underlying211 hi hcmp hj (by rw [hjs];decide) hne ha' hb'
  have hty := run_eql_iface_types (P := Tryz.prog) 187 211 (.agg #[.int .i64 p,.iface 211 (.pointer (some a))]) (.pointer (some b)) Tryz.underlying98 (by decide) w
  go_enter Tryz.func89,Tryz.ntmps89
  go_wp2
  refine wp_loop_rounds 2 ?_
  rw [rounds_succ]
  go_wp2_with (go_at_call 148;refine (unwrap_any p _ rfl _).mono ?_;rintro e w' ⟨rfl,rfl⟩)
  rw [rounds_succ]
  go_wp2
  go_ret
  exact ⟨rfl,hB⟩
end Go.Proofs.YtbdacbcpniegiaaGreatDoor
