/- Own work: a part of the symbolic executor and of the walks of the functions that the claim reaches. -/
import Derived.WalkKit
import Derived.MapKept
import Derived.ChangeMaps4
import Derived.Laws.MakeOwn
import Derived.Laws.OwnMore
import Derived.Laws.BytesArg
import Derived.Laws.IdiomStrings
import Derived.Laws.Strings2
import Derived.Laws.Strings3
import Derived.Lib.AppendStr
import Derived.Orders
import Derived.Laws.StructEq
import Derived.Deep.Quiet
import Derived.OwnWalk
import Derived.Deep.LoopGhost
set_option maxRecDepth 100000
set_option maxHeartbeats 64000000
set_option linter.unusedSimpArgs false
set_option linter.unusedVariables false
namespace Go.Sx
open Go Go.RowKit
def All2 {α β : Type} (R : α → β → Prop) : List α → List β → Prop
  | [],[] => True
  | a :: l,b :: m => R a b ∧ All2 R l m
  | _,_ => False
theorem All2.length {α β : Type} {R : α → β → Prop} : ∀ {l : List α} {m : List β},All2 R l m → l.length = m.length
  | [],[],_ => rfl
  | _ :: _,_ :: _,h => by simp [All2.length h.2]
  | [],_ :: _,h => h.elim
  | _ :: _,[],h => h.elim
theorem All2.get {α β : Type} {R : α → β → Prop} : ∀ {l : List α} {m : List β},All2 R l m → ∀ {i : Nat} {a : α},l[i]? = some a → ∃ b,m[i]? = some b ∧ R a b
  | [],[],_,i,a,h => by simp at h
  | x :: l,y :: m,h,0,a,e => by simp at e;subst e;exact ⟨y,rfl,h.1⟩
  | x :: l,y :: m,h,i + 1,a,e => by simp at e;obtain ⟨b,hb,hr⟩ := All2.get h.2 e;exact ⟨b,by simpa using hb,hr⟩
  | [],_ :: _,h,_,_,_ => h.elim
  | _ :: _,[],h,_,_,_ => h.elim
theorem All2.mono {α β : Type} {R S : α → β → Prop} (hRS : ∀ a b,R a b → S a b) : ∀ {l : List α} {m : List β},All2 R l m → All2 S l m
  | [],[],_ => trivial
  | _ :: _,_ :: _,h => ⟨hRS _ _ h.1,All2.mono hRS h.2⟩
  | [],_ :: _,h => h.elim
  | _ :: _,[],h => h.elim
theorem All2.set {α β : Type} {R : α → β → Prop} : ∀ {l : List α} {m : List β},All2 R l m → ∀ {i : Nat} {a b},R a b → All2 R (l.set i a) (m.set i b)
  | [],[],_,_,_,_,_ => trivial
  | x :: l,y :: m,h,0,a,b,e => ⟨e,h.2⟩
  | x :: l,y :: m,h,i + 1,a,b,e => ⟨h.1,All2.set h.2 e⟩
  | [],_ :: _,h,_,_,_,_ => h.elim
  | _ :: _,[],h,_,_,_,_ => h.elim
theorem All2.append {α β : Type} {R : α → β → Prop} : ∀ {l : List α} {m : List β} {l' : List α} {m' : List β},All2 R l m → All2 R l' m' → All2 R (l ++ l') (m ++ m')
  | [],[],_,_,_,h' => h'
  | _ :: _,_ :: _,_,_,h,h' => ⟨h.1,All2.append h.2 h'⟩
  | [],_ :: _,_,_,h,_ => h.elim
  | _ :: _,[],_,_,h,_ => h.elim
theorem All2.take {α β : Type} {R : α → β → Prop} : ∀ (n : Nat) {l : List α} {m : List β},All2 R l m → All2 R (l.take n) (m.take n)
  | 0,_,_,_ => by simp [All2]
  | n + 1,[],[],_ => trivial
  | n + 1,_ :: _,_ :: _,h => ⟨h.1,All2.take n h.2⟩
  | _ + 1,[],_ :: _,h => h.elim
  | _ + 1,_ :: _,[],h => h.elim
theorem All2.drop {α β : Type} {R : α → β → Prop} : ∀ (n : Nat) {l : List α} {m : List β},All2 R l m → All2 R (l.drop n) (m.drop n)
  | 0,_,_,h => by simpa using h
  | n + 1,[],[],_ => trivial
  | n + 1,_ :: _,_ :: _,h => All2.drop n h.2
  | _ + 1,[],_ :: _,h => h.elim
  | _ + 1,_ :: _,[],h => h.elim
inductive SP where
  | v (x : Value)
  | loc (i off : Nat)
  | row (i : Nat)
inductive SC where
  | v (x : Value)
  | loc (i off : Nat)
  | sl (i off len cap : Nat)
  | row (i : Nat)
  | ri (i k : Nat)
  | clo (f : FuncId) (first cap : List SP)
  | dead
inductive S1 where
  | c (x : SC)
  | agg (l : List SC)
inductive SV where
  | one (x : S1)
  | tup (l : List S1)
abbrev ptr (b off : Nat) : Value := .pointer (some ⟨b,off,none⟩)
def DP (σ : List Value) : SP → Value → Prop
  | .v x,y => y = x
  | .loc i off,y => ∃ b,σ[i]? = some (ptr b 0) ∧ y = ptr b off
  | .row i,y => σ[i]? = some y
def DC (σ : List Value) : SC → Value → Prop
  | .v x,y => y = x
  | .loc i off,y => ∃ b,σ[i]? = some (ptr b 0) ∧ y = ptr b off
  | .sl i off len cap,y => ∃ b,σ[i]? = some (ptr b 0) ∧ y = .slice (some ⟨b,off,none⟩) len cap
  | .row i,y => σ[i]? = some y
  | .ri i k,y => ∃ a n m,σ[i]? = some (.slice (some a) n m) ∧ y = .pointer (some (a.add k))
  | .clo f fst cap,y => ∃ us vs : List Value,y = .func (.func f) us.toArray vs.toArray ∧ All2 (DP σ) fst us ∧ All2 (DP σ) cap vs
  | .dead,_ => True
def D1 (σ : List Value) : S1 → Value → Prop
  | .c x,y => DC σ x y
  | .agg l,y => ∃ cs : List Value,y = .agg cs.toArray ∧ All2 (DC σ) l cs
def DV (σ : List Value) : SV → Value → Prop
  | .one x,y => D1 σ x y
  | .tup l,y => ∃ vs : List Value,y = .tuple vs.toArray ∧ All2 (D1 σ) l vs
inductive LO where
  | cells (l : List SC) (t : TypeId)
  | row (e : TypeId) (sz n : Nat) (xs : List Value)
  | map (es : List (Value × S1))
  | ext (H : Value → List Nat → World → Prop)
  | gone
structure Cfg where
  env : List (Nat × SV)
  loc : List LO
structure Fr (X : Nat → Prop) (w w' : World) : Prop where
  os : w'.os = w.os
  tape : w'.tape = w.tape
  output : w'.output = w.output
  size : w.heap.size ≤ w'.heap.size
  block : ∀ k,k < w.heap.size → ¬ X k → w'.heap[k]? = w.heap[k]?
theorem Fr.refl (X : Nat → Prop) (w : World) : Fr X w w := ⟨rfl,rfl,rfl,Nat.le_refl _,fun _ _ _ => rfl⟩
theorem Fr.trans {X : Nat → Prop} {a b c : World} (h : Fr X a b) (k : Fr X b c) : Fr X a c :=
  ⟨k.os.trans h.os,k.tape.trans h.tape,k.output.trans h.output,Nat.le_trans h.size k.size,fun i hi hx => (k.block i (Nat.lt_of_lt_of_le hi h.size) hx).trans (h.block i hi hx)⟩
theorem Fr.mono {X Y : Nat → Prop} {a b : World} (h : Fr X a b) (hxy : ∀ k,k < a.heap.size → X k → Y k) : Fr Y a b :=
  ⟨h.os,h.tape,h.output,h.size,fun i hi hx => h.block i hi (fun hX => hx (hxy i hi hX))⟩
theorem Fr.of_below {X : Nat → Prop} {a b : World} (h : Below a.heap.size a b) : Fr X a b := ⟨h.os,h.tape,h.output,h.size,fun k hk _ => h.block k hk⟩
theorem Fr.below {X : Nat → Prop} {a b : World} (h : Fr X a b) (hx : ∀ k,k < a.heap.size → ¬ X k) : Below a.heap.size a b := ⟨h.os,h.tape,h.output,h.size,fun k hk => h.block k hk (hx k hk)⟩
theorem Fr.alloc (X : Nat → Prop) (w : World) (o : Obj) : Fr X w (w.alloc o) := ⟨rfl,rfl,rfl,by simp,fun k hk _ => Below.heap_alloc w o k hk⟩
theorem Fr.setCell {X : Nat → Prop} (w : World) (a : Addr) (v : Value) (h : X a.block) : Fr X w (w.setCell a v) :=
  ⟨rfl,rfl,rfl,by simp [World.setCell],fun k hk hx => Below.heap_setCell w a v k (fun e => hx (e ▸ h))⟩
theorem Fr.drew (X : Nat → Prop) (w : World) : Fr X w { w with drawn := w.drawn + 1 } := ⟨rfl,rfl,rfl,Nat.le_refl _,fun _ _ _ => rfl⟩
def Local (H : Value → List Nat → World → Prop) : Prop := ∀ v fp w w',w.heap.size ≤ w'.heap.size → (∀ k ∈ fp,w'.heap[k]? = w.heap[k]?) → H v fp w → H v fp w'
def DL (σ : List Value) (w : World) (fp : List Nat) (h : Value) : LO → Prop
  | .cells l t => ∃ b cs,h = ptr b 0 ∧ b ∈ fp ∧ w.heap[b]? = some (.cells (List.toArray cs) t (0,0)) ∧ All2 (DC σ) l cs
  | .row e sz n xs => w.ownsRow 0 e sz h n xs ∧ ∀ k,h.ownBlock = some k → k ∈ fp
  | .map es => ∃ b ms clock ms',h = .map (some b) ∧ b ∈ fp ∧ w.heap[b]? = some (.map ms clock) ∧ (List.Perm ms' ms.toList ∧ (ms'.map (·.key)).Nodup) ∧ All2 (fun (p : Value × S1) (m : MapEntry) => m.key = p.1 ∧ D1 σ p.2 m.val) es ms'
  | .ext H => H h fp w ∧ Local H
  | .gone => True
structure Ctx where
  P : Program
  wi : World
  own : List Nat
  nt : Nat
  base : List Value := []
structure Rel (X : Ctx) (c : Cfg) (ρ : List (List Nat)) (σ : List Value) (a : Act) (w : World) : Prop where
  env : ∀ t s,c.env.lookup t = some s → ∃ v,a.tmps[t]? = some v ∧ DV σ s v
  len : ρ.length = c.loc.length
  lenS : σ.length = c.loc.length
  loc : ∀ (i : Nat) (o : LO) (fp : List Nat) (h : Value),c.loc[i]? = some o → ρ[i]? = some fp → σ[i]? = some h → DL σ w fp h o
  inj : ρ.flatten.Nodup
  lt : ∀ b ∈ ρ.flatten,b < w.heap.size
  fresh : ∀ b ∈ ρ.flatten,X.wi.heap.size ≤ b ∨ b ∈ X.own
  low : Fr (· ∈ X.own) X.wi w
  defers : a.defers = []
  size : a.tmps.size = X.nt
  one : ∀ v ∈ σ,v.oneCell' = true
  pin : ∀ (i : Nat) (v : Value),X.base[i]? = some v → σ[i]? = some v
def Cfg.put (c : Cfg) (d : Option Tmp) (s : SV) : Cfg := match d with | some t => { c with env := (t,s) :: c.env } | none => c
def Cfg.get (c : Cfg) (t : Tmp) : SV := (c.env.lookup t).getD (.one (.c .dead))
def Cfg.ev (c : Cfg) : Operand → SV
  | .tmp t => c.get t
  | .const v => .one (.c (.v v))
  | .global g => .one (.c (.v (.pointer (some ⟨g,0,none⟩))))
  | .func f => .one (.c (.clo f [] []))
theorem Rel.ev {X : Ctx} {c : Cfg} {ρ : List (List Nat)} {σ : List Value} {a : Act} {w : World} (h : Rel X c ρ σ a w) (x : Operand) : DV σ (c.ev x) (a.eval x) := by
  cases x with
  | tmp t =>
    simp only [Cfg.ev,Cfg.get,Act.eval]
    cases hl : c.env.lookup t with
    | none => simp [DV,D1,DC]
    | some s =>
      obtain ⟨v,hv,hd⟩ := h.env t s hl
      simp only [Option.getD_some]
      have : a.tmps.getD t undef = v := by simp [Array.getD_eq_getD_getElem?,hv]
      rw [this];exact hd
  | const v => simp [Cfg.ev,Act.eval,DV,D1,DC]
  | global g => simp [Cfg.ev,Act.eval,DV,D1,DC]
  | func f => simp only [Cfg.ev,Act.eval,DV,D1,DC];exact ⟨[],[],rfl,trivial,trivial⟩
def dOk (d : Option Tmp) (n : Nat) : Bool := match d with | some t => decide (t < n) | none => true
theorem Rel.put {X : Ctx} {c : Cfg} {ρ : List (List Nat)} {σ : List Value} {a : Act} {w : World} (h : Rel X c ρ σ a w) {d : Option Tmp} {s : SV} {v : Value} (hd : dOk d X.nt = true) (hv : DV σ s v) : Rel X (c.put d s) ρ σ (a.put d v) w := by
  cases d with
  | none => exact h
  | some t =>
    refine ⟨fun t' s' he => ?_,h.len,h.lenS,h.loc,h.inj,h.lt,h.fresh,h.low,h.defers,by simp [Act.put,h.size],h.one,h.pin⟩
    have hlt : t < a.tmps.size := by simpa [dOk,h.size] using hd
    simp only [Cfg.put,List.lookup_cons] at he
    simp only [Act.put]
    by_cases e : t' = t
    · subst e
      simp at he;subst he
      exact ⟨v,by simp [hlt],hv⟩
    · have hb : (t' == t) = false := by simpa using e
      rw [hb] at he
      obtain ⟨v',hv',hd'⟩ := h.env t' s' he
      exact ⟨v',by rw [Array.getElem?_setIfInBounds_ne (by omega)];exact hv',hd'⟩
def szOf (P : Program) (t : TypeId) : Option Nat := (P.info? t).map (·.size)
def isAggD : TypeDesc → Bool
  | .struct _ | .array _ _ => true
  | _ => false
def aggOf (P : Program) (t : TypeId) : Option Bool := (P.underlying t).map isAggD
def zeroCells (P : Program) (t : TypeId) : Option (List Value) := ((P.info? t).bind (·.zero)).map (·.cells.toList)
def fieldOff (P : Program) (t : TypeId) (f : Nat) : Option Nat :=
  match P.underlying t with
  | some (.struct fs) => (fs[f]?).bind fun x => match szOf P x.type with | some (_ + 1) => some x.offset | _ => none
  | _ => none
def fieldsOf (P : Program) (t : TypeId) : Option (List (Nat × Nat)) :=
  match P.underlying t with
  | some (.struct fs) => fs.toList.mapM fun x => (szOf P x.type).map fun n => (x.offset,n)
  | _ => none
def elemSz (P : Program) (t : TypeId) : Option (TypeId × Nat) :=
  match P.underlying t with
  | some (.slice e) => (szOf P e).map fun n => (e,n)
  | _ => none
def arrInf (P : Program) (t : TypeId) : Option (Nat × Nat) :=
  match P.underlying t with
  | some (.array n e) => (szOf P e).map fun s => (n,s)
  | _ => none
def calleeOk (P : Program) (f : FuncId) : Bool :=
  match P.funcs[f]? with
  | some fn => !(fn.name == "runtime.NumGoroutine") && fn.body.isSome
  | none => false
theorem Oper.wp_mono2 {P : Program} {o : Oper} {a : Act} {w : World} {K K' : Act → World → Prop} {Q Q' : Exit → Act → World → Prop} (hK : ∀ a w,K a w → K' a w)
    (hQ : ∀ e a w,Q e a w → Q' e a w) (h : o.wp P a w K Q) : o.wp P a w K' Q' := by
  unfold Oper.wp at *
  unfold Oper.upon at *
  split at h
  · exact hK _ _ h
  · exact hK _ _ h
  · exact hK _ _ h
  · refine h.mono ?_
    intro e w' hr
    cases e with
    | returned v => exact hK _ _ hr
    | panicked ch => exact hQ _ _ _ hr
    | outgrown => obtain ⟨a₀,w₀,hq⟩ := hr;exact ⟨a₀,w₀,hQ _ _ _ hq⟩
  · exact h.mono (fun v w' hr => hK _ _ hr)
  · exact hQ _ _ _ h
  · exact h.elim
def VO (X : Ctx) (o : Oper) (c : Cfg) (N : Cfg → Prop) : Prop :=
  ∀ ρ σ a w,Rel X c ρ σ a w → o.wp X.P a w (fun a' w' => ∃ c' ρ' σ',Rel X c' ρ' σ' a' w' ∧ N c') (fun _ _ _ => False)
def OX (X : Ctx) (ops : Array Oper) (rest : List Oper) (c : Cfg) (N : Cfg → Prop) : Prop :=
  ∀ Q : Exit → Act → World → Prop,(∀ c ρ σ a w,Rel X c ρ σ a w → N c → Q .normal a w) → ∀ ρ σ a w,Rel X c ρ σ a w → wpList X.P ops Q rest a w
theorem OX.nil {X : Ctx} {ops : Array Oper} {c : Cfg} {N : Cfg → Prop} (h : N c) : OX X ops [] c N := fun Q hQ ρ σ a w hr => hQ _ _ _ _ _ hr h
theorem OX.cons {X : Ctx} {ops : Array Oper} {o : Oper} {rest : List Oper} {c : Cfg} {N N' : Cfg → Prop} (hg : o.guard = none) (h : VO X o c N')
    (hN : ∀ c',N' c' → OX X ops rest c' N) : OX X ops (o :: rest) c N := by
  intro Q hQ ρ σ a w hr
  unfold wpList
  rw [if_pos (by simp [Region.wanted,hg])]
  left
  refine Oper.wp_mono2 ?_ (fun _ _ _ h => h.elim) (h ρ σ a w hr)
  rintro a' w' ⟨c',ρ',σ',hr',hn⟩
  exact hN c' hn Q hQ _ _ _ _ hr'
theorem Rel.skip {X : Ctx} {c : Cfg} {ρ : List (List Nat)} {σ : List Value} {a : Act} {w : World} (h : Rel X c ρ σ a w) {d : Option Tmp} (hd : dOk d X.nt = true) : Rel X (c.put d (.one (.c (.v undef)))) ρ σ (a.put d undef) w :=
  h.put hd rfl
theorem OX.guarded {X : Ctx} {ops : Array Oper} {o : Oper} {rest : List Oper} {c : Cfg} {N N' : Cfg → Prop} {j : Nat} {pol : Bool} {t : Tmp} {b : Bool}
    (hg : o.guard = some (j,pol)) (hj : (ops[j]?).bind (·.dst) = some t) (hb : c.env.lookup t = some (.one (.c (.v (.bool b)))))
    (h : b = pol → VO X o c N') (hN : ∀ c',N' c' → OX X ops rest c' N)
    (hs : b = !pol → dOk o.dst X.nt = true ∧ OX X ops rest (c.put o.dst (.one (.c (.v undef)))) N) : OX X ops (o :: rest) c N := by
  intro Q hQ ρ σ a w hr
  unfold wpList
  obtain ⟨v,hv,hd⟩ := hr.env t _ hb
  obtain rfl : v = .bool b := hd
  have hy : yielded ops a.tmps j = some b := by simp [yielded,hj,hv]
  by_cases e : b = pol
  · rw [if_pos (by simp [Region.wanted,hg,hy,e])]
    left
    refine Oper.wp_mono2 ?_ (fun _ _ _ h => h.elim) (h e ρ σ a w hr)
    rintro a' w' ⟨c',ρ',σ',hr',hn⟩
    exact hN c' hn Q hQ _ _ _ _ hr'
  · have e' : b = !pol := by cases b <;> cases pol <;> simp_all
    rw [if_neg (by simp [Region.wanted,hg,hy,e])]
    obtain ⟨hd,hs⟩ := hs e'
    exact hs Q hQ _ _ _ _ (hr.skip hd)
theorem OX.unguarded {X : Ctx} {ops : Array Oper} {o : Oper} {rest : List Oper} {c : Cfg} {N : Cfg → Prop} {j : Nat} {pol : Bool} {t : Tmp}
    (hg : o.guard = some (j,pol)) (hj : (ops[j]?).bind (·.dst) = some t) (hb : c.env.lookup t = some (.one (.c (.v undef))))
    (hd : dOk o.dst X.nt = true) (hs : OX X ops rest (c.put o.dst (.one (.c (.v undef)))) N) : OX X ops (o :: rest) c N := by
  intro Q hQ ρ σ a w hr
  unfold wpList
  obtain ⟨v,hv,hdd⟩ := hr.env t _ hb
  obtain rfl : v = undef := hdd
  have hy : yielded ops a.tmps j = none := by simp [yielded,hj,hv,undef]
  rw [if_neg (by simp [Region.wanted,hg,hy])]
  exact hs Q hQ _ _ _ _ (hr.skip hd)
theorem VO.of_value {X : Ctx} {o : Oper} {c : Cfg} {N : Cfg → Prop}
    (h : ∀ ρ σ a w,Rel X c ρ σ a w → ∃ v w' c' ρ' σ' s,(execOp a.eval o).run X.P w = .ok (.value v) w' ∧ Rel X c' ρ' σ' a w' ∧ DV σ' s v ∧ dOk o.dst X.nt = true ∧ N (c'.put o.dst s)) : VO X o c N := by
  intro ρ σ a w hr
  obtain ⟨v,w',c',ρ',σ',s,hrun,hr',hs,hd,hn⟩ := h ρ σ a w hr
  unfold Oper.wp
  rw [hrun]
  exact ⟨_,ρ',σ',hr'.put hd hs,hn⟩
theorem VO.of_pure {X : Ctx} {o : Oper} {c : Cfg} {N : Cfg → Prop}
    (h : ∀ ρ σ a w,Rel X c ρ σ a w → ∃ v s,(execOp a.eval o).run X.P w = .ok (.value v) w ∧ DV σ s v ∧ dOk o.dst X.nt = true ∧ N (c.put o.dst s)) : VO X o c N :=
  .of_value fun ρ σ a w hr => let ⟨v,s,h1,h2,h3,h4⟩ := h ρ σ a w hr;⟨v,w,c,ρ,σ,s,h1,hr,h2,h3,h4⟩
theorem VO.of_skip {X : Ctx} {o : Oper} {c : Cfg} {N : Cfg → Prop} (hd : o.dst = none)
    (h : ∀ ρ σ a w,Rel X c ρ σ a w → ∃ w' c' ρ' σ',(execOp a.eval o).run X.P w = .ok .skip w' ∧ Rel X c' ρ' σ' a w' ∧ N c') : VO X o c N := by
  intro ρ σ a w hr
  obtain ⟨w',c',ρ',σ',hrun,hr',hn⟩ := h ρ σ a w hr
  unfold Oper.wp
  rw [hrun]
  exact ⟨c',ρ',σ',by simpa [hd,Act.put] using hr',hn⟩
theorem Rel.hdl {X : Ctx} {c : Cfg} {ρ : List (List Nat)} {σ : List Value} {a : Act} {w : World} (h : Rel X c ρ σ a w) {i : Nat} {fp : List Nat} (hb : ρ[i]? = some fp) : ∃ v,σ[i]? = some v := by
  have : i < σ.length := by rw [h.lenS,← h.len];exact (List.getElem?_eq_some_iff.1 hb).1
  exact ⟨σ[i],by simp [this]⟩
theorem Rel.fp {X : Ctx} {c : Cfg} {ρ : List (List Nat)} {σ : List Value} {a : Act} {w : World} (h : Rel X c ρ σ a w) {i : Nat} {v : Value} (hb : σ[i]? = some v) : ∃ fp,ρ[i]? = some fp := by
  have : i < ρ.length := by rw [h.len,← h.lenS];exact (List.getElem?_eq_some_iff.1 hb).1
  exact ⟨ρ[i],by simp [this]⟩
theorem Rel.getLoc {X : Ctx} {c : Cfg} {ρ : List (List Nat)} {σ : List Value} {a : Act} {w : World} (h : Rel X c ρ σ a w) {i b : Nat} {l : List SC} {t : TypeId} (hi : c.loc[i]? = some (.cells l t)) (hb : σ[i]? = some (ptr b 0)) :
    ∃ cs : List Value,w.heap[b]? = some (.cells cs.toArray t (0,0)) ∧ All2 (DC σ) l cs ∧ ∃ fp,ρ[i]? = some fp ∧ b ∈ fp := by
  obtain ⟨fp,hfp⟩ := h.fp hb
  obtain ⟨b',cs,e,hm,hw,ha⟩ := h.loc i _ _ _ hi hfp hb
  cases e
  exact ⟨cs,hw,ha,fp,hfp,hm⟩
theorem mem_flat {ρ : List (List Nat)} {i : Nat} {fp : List Nat} (h : ρ[i]? = some fp) {b : Nat} (hb : b ∈ fp) : b ∈ ρ.flatten := List.mem_flatten.2 ⟨fp,List.mem_of_getElem? h,hb⟩
theorem flat_inj : ∀ {ρ : List (List Nat)},ρ.flatten.Nodup → ∀ {i j b : Nat} {fp fq : List Nat},ρ[i]? = some fp → ρ[j]? = some fq → b ∈ fp → b ∈ fq → i = j
  | [],_,i,_,_,_,_,h,_,_,_ => by simp at h
  | f :: ρ,hn,0,0,_,_,_,_,_,_,_ => rfl
  | f :: ρ,hn,0,j + 1,b,fp,fq,hi,hj,hb,hb' => by
    simp at hi hj;subst hi
    rw [List.flatten_cons,List.nodup_append] at hn
    exact absurd rfl (hn.2.2 b hb b (mem_flat hj hb'))
  | f :: ρ,hn,i + 1,0,b,fp,fq,hi,hj,hb,hb' => by
    simp at hi hj;subst hj
    rw [List.flatten_cons,List.nodup_append] at hn
    exact absurd rfl (hn.2.2 b hb' b (mem_flat hi hb))
  | f :: ρ,hn,i + 1,j + 1,b,fp,fq,hi,hj,hb,hb' => by
    rw [List.flatten_cons,List.nodup_append] at hn
    simp at hi hj
    rw [flat_inj hn.2.1 hi hj hb hb']
def Up (σ σ' : List Value) : Prop := ∀ (i : Nat) (v : Value),σ[i]? = some v → σ'[i]? = some v
theorem DP.mono {σ σ' : List Value} (h : Up σ σ') : ∀ s v,DP σ s v → DP σ' s v
  | .v _,_,e => e
  | .loc _ _,_,⟨b,hb,e⟩ => ⟨b,h _ _ hb,e⟩
  | .row _,_,e => h _ _ e
theorem DC.mono {σ σ' : List Value} (h : Up σ σ') : ∀ s v,DC σ s v → DC σ' s v
  | .v _,_,e => e
  | .loc _ _,_,⟨b,hb,e⟩ => ⟨b,h _ _ hb,e⟩
  | .sl _ _ _ _,_,⟨b,hb,e⟩ => ⟨b,h _ _ hb,e⟩
  | .row _,_,e => h _ _ e
  | .ri _ _,_,⟨a,n,m,e,e2⟩ => ⟨a,n,m,h _ _ e,e2⟩
  | .clo _ _ _,_,⟨us,vs,e,hu,hv⟩ => ⟨us,vs,e,hu.mono (DP.mono h),hv.mono (DP.mono h)⟩
  | .dead,_,_ => trivial
theorem D1.mono {σ σ' : List Value} (h : Up σ σ') : ∀ s v,D1 σ s v → D1 σ' s v
  | .c _,_,e => DC.mono h _ _ e
  | .agg _,_,⟨cs,e,hv⟩ => ⟨cs,e,hv.mono (DC.mono h)⟩
theorem DV.mono {σ σ' : List Value} (h : Up σ σ') : ∀ s v,DV σ s v → DV σ' s v
  | .one _,_,e => D1.mono h _ _ e
  | .tup _,_,⟨cs,e,hv⟩ => ⟨cs,e,hv.mono (D1.mono h)⟩
theorem Up.append (σ σ' : List Value) : Up σ (σ ++ σ') := fun i v hv => by rw [List.getElem?_append_left (List.getElem?_eq_some_iff.1 hv).1];exact hv
theorem Up.refl (σ : List Value) : Up σ σ := fun _ _ h => h
theorem DL.kept {σ σ' : List Value} (hu : Up σ σ') {w w' : World} {fp : List Nat} {h : Value} {o : LO} (hsz : w.heap.size ≤ w'.heap.size) (hb : ∀ k ∈ fp,w'.heap[k]? = w.heap[k]?) (hd : DL σ w fp h o) : DL σ' w' fp h o := by
  cases o with
  | gone => trivial
  | cells l t =>
    obtain ⟨b,cs,rfl,hm,hw,ha⟩ := hd
    exact ⟨b,cs,rfl,hm,by rw [hb b hm];exact hw,ha.mono (DC.mono hu)⟩
  | row e sz n xs =>
    obtain ⟨⟨h1,h2⟩,hk⟩ := hd
    refine ⟨⟨h1,?_⟩,hk⟩
    rcases h2 with h2 | ⟨g,cap,cur,rfl,hg,hh,rest⟩
    · exact .inl h2
    · exact .inr ⟨g,cap,cur,rfl,hg,by rw [hb g (hk g rfl)];exact hh,rest⟩
  | map es =>
    obtain ⟨b,ms,clock,ms',e,hm,hw,hp,ha⟩ := hd
    exact ⟨b,ms,clock,ms',e,hm,by rw [hb b hm];exact hw,hp,ha.mono (fun p m hp => ⟨hp.1,D1.mono hu _ _ hp.2⟩)⟩
  | ext H => exact ⟨hd.2 _ _ _ _ hsz hb hd.1,hd.2⟩
theorem Rel.push {X : Ctx} {c : Cfg} {ρ : List (List Nat)} {σ : List Value} {a : Act} {w w' : World} (h : Rel X c ρ σ a w) {o : LO} {fp : List Nat} {v : Value} (hw : Below w.heap.size w w')
    (hfp : ∀ b ∈ fp,w.heap.size ≤ b ∧ b < w'.heap.size) (hnd : fp.Nodup) (hd : DL (σ ++ [v]) w' fp v o) (h1v : v.oneCell' = true) :
    Rel X { c with loc := c.loc ++ [o] } (ρ ++ [fp]) (σ ++ [v]) a w' := by
  have hup : Up σ (σ ++ [v]) := Up.append _ _
  refine ⟨fun t' s he => ?_,by simp [h.len],by simp [h.lenS],fun i o' fp' v' ho hb hv => ?_,?_,?_,?_,h.low.trans (Fr.of_below hw),h.defers,h.size,fun u hu => by (rcases List.mem_append.1 hu with hu | hu;exact h.one u hu;simp at hu;subst hu;exact h1v),fun i b hb => hup _ _ (h.pin i b hb)⟩
  · obtain ⟨u,hv,hd⟩ := h.env t' s he
    exact ⟨u,hv,DV.mono hup _ _ hd⟩
  · rcases Nat.lt_or_ge i c.loc.length with hi | hi
    · rw [List.getElem?_append_left hi] at ho
      rw [List.getElem?_append_left (by rw [h.len];exact hi)] at hb
      rw [List.getElem?_append_left (by rw [h.lenS];exact hi)] at hv
      exact DL.kept hup hw.size (fun k hk => hw.block k (h.lt k (mem_flat hb hk))) (h.loc i o' fp' v' ho hb hv)
    · rw [List.getElem?_append_right hi] at ho
      rw [List.getElem?_append_right (by rw [h.len];exact hi)] at hb
      rw [List.getElem?_append_right (by rw [h.lenS];exact hi)] at hv
      have e0 : i - c.loc.length = 0 := by
        rcases Nat.eq_zero_or_pos (i - c.loc.length) with e | e
        · exact e
        · rw [List.getElem?_eq_none (by simp;omega)] at ho;simp at ho
      rw [e0] at ho
      rw [show i - ρ.length = 0 by rw [h.len];exact e0] at hb
      rw [show i - σ.length = 0 by rw [h.lenS];exact e0] at hv
      simp at ho hb hv
      subst ho;subst hb;subst hv
      exact hd
  · rw [List.flatten_append,List.nodup_append]
    refine ⟨h.inj,by simpa using hnd,?_⟩
    intro b hb b' hb'
    simp at hb'
    have h1 := h.lt b hb
    have h2 := (hfp b' hb').1
    omega
  · intro b hb
    rw [List.flatten_append,List.mem_append] at hb
    rcases hb with hb | hb
    · exact Nat.lt_of_lt_of_le (h.lt b hb) hw.size
    · simp at hb;exact (hfp b hb).2
  · intro b hb
    rw [List.flatten_append,List.mem_append] at hb
    rcases hb with hb | hb
    · exact h.fresh b hb
    · simp at hb;exact .inl (Nat.le_trans h.low.size (hfp b hb).1)
theorem Rel.alloc {X : Ctx} {c : Cfg} {ρ : List (List Nat)} {σ : List Value} {a : Act} {w : World} (h : Rel X c ρ σ a w) {l : List SC} {cs : List Value} (t : TypeId) (hl : All2 (DC σ) l cs) :
    Rel X { c with loc := c.loc ++ [.cells l t] } (ρ ++ [[w.heap.size]]) (σ ++ [ptr w.heap.size 0]) a (w.alloc (.cells cs.toArray t)) :=
  h.push ((Below.refl _ _).alloc (Nat.le_refl _) _) (fun b hb => by simp at hb;subst hb;simp) (by simp)
    ⟨w.heap.size,cs,rfl,by simp,heap_alloc_new w _,hl.mono (DC.mono (Up.append _ _))⟩ rfl
theorem Rel.below {X : Ctx} {c : Cfg} {ρ : List (List Nat)} {σ : List Value} {a : Act} {w w' : World} (h : Rel X c ρ σ a w) (hw : Below w.heap.size w w') : Rel X c ρ σ a w' :=
  ⟨h.env,h.len,h.lenS,fun i o fp v ho hb hv => DL.kept (Up.refl _) hw.size (fun k hk => hw.block k (h.lt k (mem_flat hb hk))) (h.loc i o fp v ho hb hv),h.inj,
    fun b hb => Nat.lt_of_lt_of_le (h.lt b hb) hw.size,h.fresh,h.low.trans (Fr.of_below hw),h.defers,h.size,h.one,h.pin⟩
theorem Rel.locAt {X : Ctx} {c : Cfg} {ρ : List (List Nat)} {σ : List Value} {a : Act} {w : World} (h : Rel X c ρ σ a w) {i : Nat} {o : LO} (hi : c.loc[i]? = some o) : ∃ fp,ρ[i]? = some fp := by
  have : i < ρ.length := by rw [h.len];exact (List.getElem?_eq_some_iff.1 hi).1
  exact ⟨ρ[i],by simp [this]⟩
def SC.One : SC → Prop
  | .v x => x.oneCell' = true
  | .dead => False
  | _ => True
theorem oneCell_cells {v : Value} (h : v.oneCell' = true) : v.cells = #[v] := by cases v <;> simp_all [Value.oneCell',Value.cells]
theorem SC.One.oneCell {σ : List Value} (hσ : ∀ v ∈ σ,v.oneCell' = true) {s : SC} {v : Value} (h : s.One) (hd : DC σ s v) : v.oneCell' = true := by
  cases s with
  | v x => obtain rfl : v = x := hd;exact h
  | loc i off => obtain ⟨b,_,rfl⟩ := hd;rfl
  | sl i off n c => obtain ⟨b,_,rfl⟩ := hd;rfl
  | clo f fst cap => obtain ⟨us,vs,rfl,_⟩ := hd;rfl
  | row i => exact hσ _ (List.mem_of_getElem? hd)
  | ri i k => obtain ⟨a,n,m,_,rfl⟩ := hd;rfl
  | dead => exact h.elim
def S1.cells : S1 → List SC
  | .c x => [x]
  | .agg l => l
def S1.One (s : S1) : Prop := ∀ x ∈ s.cells,SC.One x
theorem S1.One.cells {σ : List Value} (hσ : ∀ v ∈ σ,v.oneCell' = true) {s : S1} {v : Value} (h : s.One) (hd : D1 σ s v) : All2 (DC σ) s.cells v.cells.toList ∧ ∀ x ∈ v.cells.toList,x.oneCell' = true := by
  cases s with
  | c x =>
    have h1 := (h x (by simp [S1.cells])).oneCell hσ hd
    rw [oneCell_cells h1]
    exact ⟨⟨hd,trivial⟩,by simpa using h1⟩
  | agg l =>
    obtain ⟨cs,rfl,ha⟩ := hd
    refine ⟨by simpa [S1.cells,Value.cells] using ha,?_⟩
    simp only [Value.cells]
    have key : ∀ {l : List SC} {cs : List Value},All2 (DC σ) l cs → (∀ x ∈ l,SC.One x) → ∀ x ∈ cs,x.oneCell' = true := by
      intro l
      induction l with
      | nil => intro cs ha _ x hx;cases cs with | nil => simp at hx | cons _ _ => exact ha.elim
      | cons s l ih =>
        intro cs ha ho x hx
        cases cs with
        | nil => exact ha.elim
        | cons y cs =>
          rcases List.mem_cons.1 hx with rfl | hx
          · exact (ho s (by simp)).oneCell hσ ha.1
          · exact ih ha.2 (fun s hs => ho s (by simp [hs])) x hx
    exact key ha h
def SC.val? : SC → Option Value
  | .v x => some x
  | _ => none
def vals? : List SC → Option (List Value)
  | [] => some []
  | .v x :: l => (vals? l).map (x :: ·)
  | _ :: _ => none
def S1.val? : S1 → Option Value
  | .c (.v x) => some x
  | .agg l => (vals? l).map fun vs => .agg vs.toArray
  | _ => none
theorem vals?_spec {σ : List Value} : ∀ {l : List SC} {vs cs : List Value},vals? l = some vs → All2 (DC σ) l cs → cs = vs
  | [],vs,[],h,_ => by simp [vals?] at h;exact h.symm
  | [],_,_ :: _,_,h => h.elim
  | .v x :: l,vs,y :: cs,h,ha => by
    simp only [vals?] at h
    cases hv : vals? l with
    | none => simp [hv] at h
    | some us =>
      simp [hv] at h
      subst h
      have := vals?_spec hv ha.2
      obtain rfl : y = x := ha.1
      rw [this]
  | .v x :: l,_,[],_,ha => ha.elim
  | .loc _ _ :: _,_,_,h,_ => by simp [vals?] at h
  | .sl _ _ _ _ :: _,_,_,h,_ => by simp [vals?] at h
  | .row _ :: _,_,_,h,_ => by simp [vals?] at h
  | .ri _ _ :: _,_,_,h,_ => by simp [vals?] at h
  | .clo _ _ _ :: _,_,_,h,_ => by simp [vals?] at h
  | .dead :: _,_,_,h,_ => by simp [vals?] at h
theorem S1.val?_spec {σ : List Value} {s : S1} {x y : Value} (h : s.val? = some x) (hd : D1 σ s y) : y = x := by
  cases s with
  | c z =>
    cases z <;> simp [S1.val?] at h
    subst h;exact hd
  | agg l =>
    simp only [S1.val?] at h
    cases hv : vals? l with
    | none => simp [hv] at h
    | some us =>
      simp [hv] at h
      subst h
      obtain ⟨cs,rfl,ha⟩ := hd
      rw [vals?_spec hv ha]
def SV.val? : SV → Option Value
  | .one s => s.val?
  | .tup _ => none
theorem SV.val?_spec {σ : List Value} {s : SV} {x y : Value} (h : s.val? = some x) (hd : DV σ s y) : y = x := by
  cases s with
  | one z => exact S1.val?_spec h hd
  | tup _ => simp [SV.val?] at h
section ops
variable {X : Ctx} {c : Cfg} {N : Cfg → Prop} {d : Option Tmp} {ty : TypeId} {pos : String} {af : Array Edge} {g : Option (Nat × Bool)}
def nxt (X : Ctx) (d : Option Tmp) (N : Cfg → Prop) (c : Cfg) (s : SV) : Prop := dOk d X.nt = true ∧ N (c.put d s)
theorem VO.move {x : Operand} (h : nxt X d N c (c.ev x)) : VO X ⟨d,.move x,ty,pos,af,g⟩ c N :=
  .of_pure fun ρ σ a w hr => ⟨a.eval x,c.ev x,rfl,hr.ev x,h.1,h.2⟩
theorem VO.assign {x : Operand} (h : nxt X d N c (c.ev x)) : VO X ⟨d,.assign x,ty,pos,af,g⟩ c N :=
  .of_pure fun ρ σ a w hr => ⟨a.eval x,c.ev x,rfl,hr.ev x,h.1,h.2⟩
theorem VO.pick {k x y : Operand} {b : Bool} (hk : c.ev k = .one (.c (.v (.bool b)))) (h1 : b = true → nxt X d N c (c.ev x)) (h2 : b = false → nxt X d N c (c.ev y)) :
    VO X ⟨d,.pick k x y,ty,pos,af,g⟩ c N :=
  .of_pure fun ρ σ a w hr => by
    have e := hr.ev k
    rw [hk] at e
    have e : a.eval k = .bool b := e
    cases b with
    | true => exact ⟨a.eval x,c.ev x,by simp [execOp,e,asBool],hr.ev x,(h1 rfl).1,(h1 rfl).2⟩
    | false => exact ⟨a.eval y,c.ev y,by simp [execOp,e,asBool],hr.ev y,(h2 rfl).1,(h2 rfl).2⟩
theorem info_of_sz {P : Program} {t : TypeId} {n : Nat} (h : szOf P t = some n) : ∃ i,P.info? t = some i ∧ i.size = n := by
  unfold szOf at h
  cases hi : P.info? t with
  | none => simp [hi] at h
  | some i => simp [hi] at h;exact ⟨i,rfl,h⟩
theorem all2_vals {σ : List Value} : ∀ zs : List Value,All2 (DC σ) (zs.map SC.v) zs
  | [] => trivial
  | _ :: zs => ⟨rfl,all2_vals zs⟩
theorem VO.alloc {t : TypeId} {zs : List Value} (hz : zeroCells X.P t = some zs)
    (h : nxt X d N { c with loc := c.loc ++ [.cells (zs.map .v) t] } (.one (.c (.loc c.loc.length 0)))) : VO X ⟨d,.alloc t,ty,pos,af,g⟩ c N :=
  .of_value fun ρ σ a w hr => by
    unfold zeroCells at hz
    cases hi : X.P.info? t with
    | none => simp [hi] at hz
    | some i =>
      cases hzv : i.zero with
      | none => simp [hi,hzv] at hz
      | some zv =>
        simp [hi,hzv] at hz
        have hR := hr.alloc t (all2_vals zs)
        refine ⟨.pointer (some ⟨w.heap.size,0,none⟩),_,_,_,_,_,?_,hR,?_,h.1,h.2⟩
        · simp only [execOp,Instr.alloc,zeroValue,typeInfo,newVar,newRow,newObj,Sem.run_bind,run_program,hi,Sem.run_pure,hzv,Result.andThen]
          subst hz
          simp [Sem.run]
        · exact ⟨w.heap.size,by rw [← hr.lenS];simp,rfl⟩
theorem VO.box {t : TypeId} {x : Operand} {s : S1} (hx : c.ev x = .one s) (ho : s.One)
    (h : nxt X d N { c with loc := c.loc ++ [.cells s.cells t] } (.one (.c (.loc c.loc.length 0)))) : VO X ⟨d,.box t x,ty,pos,af,g⟩ c N :=
  .of_value fun ρ σ a w hr => by
    have hv := hr.ev x
    rw [hx] at hv
    obtain ⟨ha,_⟩ := ho.cells hr.one hv
    have hR := hr.alloc t ha
    refine ⟨.pointer (some ⟨w.heap.size,0,none⟩),_,_,_,_,_,?_,hR,?_,h.1,h.2⟩
    · simp [execOp,Instr.box,newVar,newRow]
    · exact ⟨w.heap.size,by rw [← hr.lenS];simp,rfl⟩
theorem isAgg_run {P : Program} {t : TypeId} {b : Bool} (h : aggOf P t = some b) (w : World) : (isAgg t).run P w = .ok b w := by
  unfold aggOf at h
  cases hu : P.underlying t with
  | none => simp [hu] at h
  | some u =>
    simp [hu] at h
    unfold isAgg
    simp only [Sem.run_bind,run_underlying hu,Result.andThen]
    cases u <;> simp_all [isAggD]
theorem sizeOf_run {P : Program} {t : TypeId} {n : Nat} (h : szOf P t = some n) (w : World) : (Go.sizeOf t).run P w = .ok n w := by
  obtain ⟨i,hi,rfl⟩ := info_of_sz h
  simp [Go.sizeOf,typeInfo,hi]
theorem add_add (b o j : Nat) : (⟨b,o,none⟩ : Addr).add j = ⟨b,o + j,none⟩ := by unfold Addr.add;split <;> simp_all
theorem VO.load1 {t : TypeId} {x : Operand} {i off : Nat} {l : List SC} {t' : TypeId} {s : SC} (hx : c.ev x = .one (.c (.loc i off))) (ht : aggOf X.P t = some false)
    (hi : c.loc[i]? = some (.cells l t')) (hs : l[off]? = some s) (h : nxt X d N c (.one (.c s))) : VO X ⟨d,.load t x,ty,pos,af,g⟩ c N :=
  .of_pure fun ρ σ a w hr => by
    have hv := hr.ev x
    rw [hx] at hv
    obtain ⟨b,hb,e⟩ := hv
    obtain ⟨cs,hw,ha,_⟩ := hr.getLoc hi hb
    obtain ⟨v,hv',hd⟩ := ha.get hs
    have hc : w.cell? ⟨b,off,none⟩ = some v := by rw [cell_of_row w b off _ _ _ hw];simpa using hv'
    refine ⟨v,.one (.c s),?_,hd,h.1,h.2⟩
    simp [execOp,e,Instr.loadAt,Instr.sureAddr,loadVar,isAgg_run ht,hc]
theorem VO.loadN {t : TypeId} {x : Operand} {i off n : Nat} {l : List SC} {t' : TypeId} (hx : c.ev x = .one (.c (.loc i off))) (ht : aggOf X.P t = some true) (hz : szOf X.P t = some n)
    (hi : c.loc[i]? = some (.cells l t')) (hn : off + n ≤ l.length) (h : nxt X d N c (.one (.agg ((l.drop off).take n)))) : VO X ⟨d,.load t x,ty,pos,af,g⟩ c N :=
  .of_pure fun ρ σ a w hr => by
    have hv := hr.ev x
    rw [hx] at hv
    obtain ⟨b,hb,e⟩ := hv
    obtain ⟨cs,hw,ha,_⟩ := hr.getLoc hi hb
    have hl : ((cs.drop off).take n).length = n := by have := ha.length;simp;omega
    have hrun : (loadCells ⟨b,off,none⟩ n).run X.P w = .ok ((cs.drop off).take n).toArray w := by
      have := run_loadCells_list (P := X.P) w ⟨b,off,none⟩ ((cs.drop off).take n) (fun j v hv => by
        rw [add_add,cell_of_row w b _ _ _ _ hw]
        rw [List.getElem?_take] at hv
        split at hv
        · simpa using hv
        · simp at hv)
      rw [hl] at this
      exact this
    refine ⟨.agg ((cs.drop off).take n).toArray,.one (.agg ((l.drop off).take n)),?_,⟨_,rfl,(ha.drop off).take n⟩,h.1,h.2⟩
    simp [execOp,e,Instr.loadAt,Instr.sureAddr,loadVar,isAgg_run ht,sizeOf_run hz,hrun]
theorem Rel.setRow {ρ : List (List Nat)} {σ : List Value} {a : Act} {w : World} (h : Rel X c ρ σ a w) {i b : Nat} {l l' : List SC} {cs' : List Value} {t : TypeId}
    (hi : c.loc[i]? = some (.cells l t)) (hb : σ[i]? = some (ptr b 0)) (hs : All2 (DC σ) l' cs') :
    Rel X { c with loc := c.loc.set i (.cells l' t) } ρ σ a (w.setRow b cs'.toArray) := by
  obtain ⟨cs,hw,ha,fp,hfp,hm⟩ := h.getLoc hi hb
  have hsz : (w.setRow b cs'.toArray).heap.size = w.heap.size := by simp [World.setRow]
  have hold : ∀ k,k ≠ b → (w.setRow b cs'.toArray).heap[k]? = w.heap[k]? := fun k hk => by
    simp only [World.setRow,Array.getElem?_modify]
    rw [if_neg (by omega)]
  refine ⟨h.env,by simp [h.len],by simp [h.lenS],fun j o fq v ho hb' hv => ?_,h.inj,fun b' hb' => by rw [hsz];exact h.lt b' hb',h.fresh,?_,h.defers,h.size,h.one,h.pin⟩
  · by_cases e : j = i
    · subst e
      rw [hfp] at hb';cases hb'
      rw [hb] at hv;cases hv
      have hj : j < c.loc.length := (List.getElem?_eq_some_iff.1 hi).1
      rw [List.getElem?_set_self hj] at ho
      cases ho
      exact ⟨b,cs',rfl,hm,setRow_heap w b _ _ _ _ hw,hs⟩
    · rw [List.getElem?_set_ne (by omega)] at ho
      exact DL.kept (Up.refl _) (by rw [hsz];exact Nat.le_refl _) (fun k hk => hold k (fun eb => e (flat_inj h.inj hb' hfp hk (by rw [eb];exact hm)))) (h.loc j o fq v ho hb' hv)
  · refine ⟨h.low.os,h.low.tape,h.low.output,by rw [hsz];exact h.low.size,fun k hk hx => ?_⟩
    have hne : k ≠ b := by
      rintro rfl
      rcases h.fresh k (mem_flat hfp hm) with hf | hf
      · omega
      · exact hx hf
    rw [hold k hne]
    exact h.low.block k hk hx
def splice (l : List SC) (off : Nat) (m : List SC) : List SC := l.take off ++ m ++ l.drop (off + m.length)
theorem VO.store {t : TypeId} {x y : Operand} {i off n : Nat} {l : List SC} {t' : TypeId} {s : S1} (hx : c.ev x = .one (.c (.loc i off))) (hy : c.ev y = .one s) (ho : s.One)
    (hz : szOf X.P t = some n) (hn : s.cells.length = n) (hi : c.loc[i]? = some (.cells l t')) (hl : off + n ≤ l.length)
    (h : N { c with loc := c.loc.set i (.cells (splice l off s.cells) t') }) : VO X ⟨none,.store t x y,ty,pos,af,g⟩ c N :=
  .of_skip rfl fun ρ σ a w hr => by
    have hv := hr.ev x
    rw [hx] at hv
    obtain ⟨b,hb,e⟩ := hv
    have hv2 := hr.ev y
    rw [hy] at hv2
    obtain ⟨ha2,h1⟩ := ho.cells hr.one hv2
    obtain ⟨cs,hw,ha,_⟩ := hr.getLoc hi hb
    have hlen := ha2.length
    have hcl := ha.length
    have hrun := run_storeCells_at X.P b off t' (a.eval y).cells.toList 0 cs.toArray w hw (by simp at hlen hcl ⊢;omega) h1
    have hnew : All2 (DC σ) (splice l off s.cells) (cs.take off ++ (a.eval y).cells.toList ++ cs.drop (off + s.cells.length)) := (All2.append (All2.append (ha.take off) ha2) (ha.drop _))
    have hR := hr.setRow hi hb hnew
    refine ⟨_,_,_,_,?_,hR,h⟩
    have hsz : (a.eval y).cells.size = n := by simp at hlen;omega
    simp only [execOp,Instr.storeAt,Instr.sureAddr,e,storeVar,Sem.run_bind,Sem.run_pure,Result.andThen,sizeOf_run hz,hsz]
    simp only [ne_eq,not_true_eq_false,if_false]
    simp only [Nat.add_zero] at hrun
    rw [hrun]
    simp [hlen]
theorem add_assoc' (ad : Addr) (i j : Nat) : (ad.add i).add j = ad.add (i + j) := by
  by_cases hi : i = 0
  · subst hi;simp [Addr.add]
  · by_cases hj : j = 0
    · subst hj;simp [Addr.add]
    · simp [Addr.add,hi,hj,Nat.add_assoc]
theorem VO.fieldAddr {t : TypeId} {x : Operand} {f i off o : Nat} (hx : c.ev x = .one (.c (.loc i off))) (hf : fieldOff X.P t f = some o)
    (h : nxt X d N c (.one (.c (.loc i (off + o))))) : VO X ⟨d,.fieldAddr t x f,ty,pos,af,g⟩ c N :=
  .of_pure fun ρ σ a w hr => by
    have hv := hr.ev x
    rw [hx] at hv
    obtain ⟨b,hb,e⟩ := hv
    unfold fieldOff at hf
    split at hf
    · rename_i fs hu
      cases hfs : fs[f]? with
      | none => simp [hfs] at hf
      | some y =>
        simp [hfs] at hf
        split at hf
        · rename_i n hz
          simp at hf
          refine ⟨.pointer (some ⟨b,off + o,none⟩),.one (.c (.loc i (off + o))),?_,⟨b,hb,rfl⟩,h.1,h.2⟩
          simp [execOp,e,Instr.fieldAt,Instr.sureAddr,run_underlying hu,hfs,fieldPlace,sizeOf_run hz,add_add,hf]
        · simp at hf
    · simp at hf
theorem VO.fieldAddrV {t : TypeId} {x : Operand} {f o : Nat} {ad : Addr} (hx : c.ev x = .one (.c (.v (.pointer (some ad))))) (hf : fieldOff X.P t f = some o)
    (h : nxt X d N c (.one (.c (.v (.pointer (some (ad.add o))))))) : VO X ⟨d,.fieldAddr t x f,ty,pos,af,g⟩ c N :=
  .of_pure fun ρ σ a w hr => by
    have e := hr.ev x
    rw [hx] at e
    have e : a.eval x = .pointer (some ad) := e
    unfold fieldOff at hf
    split at hf
    · rename_i fs hu
      cases hfs : fs[f]? with
      | none => simp [hfs] at hf
      | some y =>
        simp [hfs] at hf
        split at hf
        · rename_i n hz
          simp at hf
          refine ⟨.pointer (some (ad.add o)),.one (.c (.v (.pointer (some (ad.add o))))),?_,rfl,h.1,h.2⟩
          simp [execOp,e,Instr.fieldAt,Instr.sureAddr,run_underlying hu,hfs,fieldPlace,sizeOf_run hz,hf]
        · simp at hf
    · simp at hf
theorem VO.fieldAddrRi {t : TypeId} {x : Operand} {f o : Nat} {i k : Nat} (hx : c.ev x = .one (.c (.ri i k))) (hf : fieldOff X.P t f = some o)
    (h : nxt X d N c (.one (.c (.ri i (k + o))))) : VO X ⟨d,.fieldAddr t x f,ty,pos,af,g⟩ c N :=
  .of_pure fun ρ σ a w hr => by
    have e := hr.ev x
    rw [hx] at e
    obtain ⟨ad,n',m',hs,e⟩ := e
    unfold fieldOff at hf
    split at hf
    · rename_i fs hu
      cases hfs : fs[f]? with
      | none => simp [hfs] at hf
      | some y =>
        simp [hfs] at hf
        split at hf
        · rename_i n hz
          simp at hf
          refine ⟨.pointer (some (ad.add (k + o))),.one (.c (.ri i (k + o))),?_,⟨ad,n',m',hs,rfl⟩,h.1,h.2⟩
          simp [execOp,e,Instr.fieldAt,Instr.sureAddr,run_underlying hu,hfs,fieldPlace,sizeOf_run hz,hf,add_assoc']
        · simp at hf
    · simp at hf
end ops
def intBinK (op : BinOp) (k : IntKind) (a b : Int) (N : Value → Prop) : Prop :=
  match op with
  | .add => N (.int k (k.wrap (a + b)))
  | .sub => N (.int k (k.wrap (a - b)))
  | .mul => N (.int k (k.wrap (a * b)))
  | .quo => b ≠ 0 ∧ N (.int k (k.wrap (a.tdiv b)))
  | .rem => b ≠ 0 ∧ N (.int k (a.tmod b))
  | .and => N (.int k (bits .and k a b))
  | .or => N (.int k (bits .or k a b))
  | .xor => N (.int k (bits .xor k a b))
  | .andNot => N (.int k (bits .andNot k a b))
  | .eql => N (.bool (a == b))
  | .neq => N (.bool (a != b))
  | .lss => N (.bool (decide (a < b)))
  | .leq => N (.bool (decide (a ≤ b)))
  | .gtr => N (.bool (decide (b < a)))
  | .geq => N (.bool (decide (b ≤ a)))
  | _ => False
def shiftK (op : BinOp) (k : IntKind) (a b : Int) (N : Value → Prop) : Prop :=
  match op with
  | .shl => 0 ≤ b ∧ N (.int k (k.wrap (a * 2 ^ (min b.toNat k.bits))))
  | .shr => 0 ≤ b ∧ N (.int k (a.fdiv (2 ^ (min b.toNat k.bits))))
  | _ => False
def isShift : BinOp → Bool
  | .shl | .shr => true
  | _ => false
def strBinK (op : BinOp) (a b : ByteArray) (N : Value → Prop) : Prop :=
  match op with
  | .add => a.size + b.size ≤ 9223372036854775807 ∧ N (.string (a ++ b))
  | .eql => N (.bool (a.toList == b.toList))
  | .neq => N (.bool (!(a.toList == b.toList)))
  | .lss => N (.bool (Op.bytesLess a.toList b.toList))
  | .gtr => N (.bool (!(Op.bytesLess a.toList b.toList || a.toList == b.toList)))
  | .leq => N (.bool (Op.bytesLess a.toList b.toList || a.toList == b.toList))
  | .geq => N (.bool (!Op.bytesLess a.toList b.toList))
  | _ => False
def StrEq (P : Program) (t : TypeId) (xs ys : Array Value) (r : Bool) : Prop := P.eqGuardType P.depth t = false ∧ ∀ w,(Op.equalIn 10000 t (.agg xs) (.agg ys)).run P w = .ok r w
def binK (P : Program) (t : TypeId) (op : BinOp) (x y : Value) (N : Value → Prop) (els : Prop) : Prop :=
  match x,y with
  | .int k a,.int k' b => if isShift op then shiftK op k a b N else k = k' ∧ intBinK op k a b N
  | .string a,.string b => strBinK op a b N
  | .bool a,.bool b => P.underlying t = some .bool ∧ (match op with | .eql => N (.bool (a == b)) | .neq => N (.bool (!(a == b))) | _ => False)
  | .iface _ _,.nilIface => (∃ ms,P.underlying t = some (.interface ms)) ∧ (match op with | .eql => N (.bool false) | .neq => N (.bool true) | _ => False)
  | .pointer (some _),.pointer none => (∃ e,P.underlying t = some (.pointer e)) ∧ (match op with | .eql => N (.bool false) | .neq => N (.bool true) | _ => False)
  | .slice (some _) _ _,.slice none _ _ => (∃ e,P.underlying t = some (.slice e)) ∧ (match op with | .eql => N (.bool false) | .neq => N (.bool true) | _ => False)
  | .slice none _ _,.slice none _ _ => (∃ e,P.underlying t = some (.slice e)) ∧ (match op with | .eql => N (.bool true) | .neq => N (.bool false) | _ => False)
  | .pointer none,.pointer none => (∃ e,P.underlying t = some (.pointer e)) ∧ (match op with | .eql => N (.bool true) | .neq => N (.bool false) | _ => False)
  | .agg xs,.agg ys => (match op with | .eql => ∃ r,StrEq P t xs ys r ∧ N (.bool r) | .neq => ∃ r,StrEq P t xs ys r ∧ N (.bool (!r)) | _ => False)
  | _,_ => els
section eqs
variable {P : Program} {t : TypeId} (w : World)
theorem equal_of {x y : Value} {r : Bool} (h : ∀ d,(Op.equalIn (d + 1) t x y).run P w = .ok r w) : (Op.equal t x y).run P w = .ok r w := h 9999
theorem eq_bool (hu : P.underlying t = some .bool) (a b : Bool) : (Op.equal t (.bool a) (.bool b)).run P w = .ok (a == b) w :=
  equal_of w fun d => by simp [Op.equalIn,run_underlying hu]
theorem eq_iface_nil {ms : Array (String × TypeId)} (hu : P.underlying t = some (.interface ms)) (u : TypeId) (v : Value) : (Op.equal t (.iface u v) .nilIface).run P w = .ok false w :=
  equal_of w fun d => by simp [Op.equalIn,run_underlying hu]
theorem eq_ptr_nil {e : TypeId} (hu : P.underlying t = some (.pointer e)) (a : Addr) : (Op.equal t (.pointer (some a)) (.pointer none)).run P w = .ok false w :=
  equal_of w fun d => by simp [Op.equalIn,run_underlying hu]
theorem eq_nil_nil {e : TypeId} (hu : P.underlying t = some (.pointer e)) : (Op.equal t (.pointer none) (.pointer none)).run P w = .ok true w :=
  equal_of w fun d => by simp [Op.equalIn,run_underlying hu]
theorem eq_slice_nil {e : TypeId} (hu : P.underlying t = some (.slice e)) (a : Option Addr) (n m n' m' : Nat) : (Op.equal t (.slice a n m) (.slice none n' m')).run P w = .ok a.isNone w :=
  equal_of w fun d => by cases a <;> simp [Op.equalIn,run_underlying hu]
end eqs
theorem binK_sound {P : Program} {t : TypeId} {op : BinOp} {x y : Value} {N : Value → Prop} {els : Prop} (xo yo : Operand) (h : binK P t op x y N els) :
    els ∨ ∃ v,(∀ w,(do eqGuard op t xo yo x y;binOp op t x y : Sem Value).run P w = .ok v w) ∧ N v := by
  unfold binK at h
  refine Classical.or_iff_not_imp_left.2 (fun hels => ?_)
  split at h
  · rename_i k a k' b
    by_cases hs : isShift op = true
    · rw [if_pos hs] at h
      cases op <;> simp [isShift] at hs <;> simp only [shiftK] at h <;> refine ⟨_,fun w => ?_,h.2⟩ <;>
        simp [eqGuard,binOp,Op.shift,show ¬ b < 0 by omega]
    · rw [if_neg hs] at h
      obtain ⟨rfl,h⟩ := h
      cases op <;> simp [isShift] at hs <;> simp only [intBinK] at h
      case quo => exact ⟨_,fun w => by simp [eqGuard,binOp,Op.intDiv,h.1],h.2⟩
      case rem => exact ⟨_,fun w => by simp [eqGuard,binOp,Op.intDiv,h.1],h.2⟩
      case and => exact ⟨_,fun w => by simp [eqGuard,binOp,Op.intBits,bits],h⟩
      case or => exact ⟨_,fun w => by simp [eqGuard,binOp,Op.intBits,bits],h⟩
      case xor => exact ⟨_,fun w => by simp [eqGuard,binOp,Op.intBits,bits],h⟩
      case andNot => exact ⟨_,fun w => by simp [eqGuard,binOp,Op.intBits,bits],h⟩
      case eql => exact ⟨_,fun w => by simp [eqGuard,binOp,Op.intCmp],h⟩
      case neq => exact ⟨_,fun w => by simp [eqGuard,binOp,Op.intCmp],h⟩
      all_goals exact ⟨_,fun w => by simp [eqGuard,binOp,Op.intArith,Op.intCmp],h⟩
  · rename_i a b
    cases op <;> simp only [strBinK] at h
    case add => exact ⟨_,fun w => by simp [eqGuard,binOp,run_string_add_sum w a b h.1],h.2⟩
    all_goals exact ⟨_,fun w => by simp [eqGuard,binOp,Op.stringOp],h⟩
  · rename_i a b
    obtain ⟨hu,h⟩ := h
    cases op <;> simp only at h
    all_goals exact ⟨_,fun w => by simp [eqGuard,binOp,eq_bool w hu],h⟩
  · obtain ⟨⟨ms,hu⟩,h⟩ := h
    cases op <;> simp only at h
    all_goals exact ⟨_,fun w => by simp [eqGuard,binOp,eq_iface_nil w hu],h⟩
  · obtain ⟨⟨ms,hu⟩,h⟩ := h
    cases op <;> simp only at h
    all_goals exact ⟨_,fun w => by simp [eqGuard,binOp,eq_ptr_nil w hu],h⟩
  · obtain ⟨⟨ms,hu⟩,h⟩ := h
    cases op <;> simp only at h
    all_goals exact ⟨_,fun w => by simp [eqGuard,binOp,eq_slice_nil w hu],h⟩
  · obtain ⟨⟨ms,hu⟩,h⟩ := h
    cases op <;> simp only at h
    all_goals exact ⟨_,fun w => by simp [eqGuard,binOp,eq_slice_nil w hu],h⟩
  · obtain ⟨⟨ms,hu⟩,h⟩ := h
    cases op <;> simp only at h
    all_goals exact ⟨_,fun w => by simp [eqGuard,binOp,eq_nil_nil w hu],h⟩
  · cases op <;> simp only at h
    · obtain ⟨r,⟨h1,h2⟩,h⟩ := h
      exact ⟨_,fun w => by simp only [Sem.run_bind,run_eqGuard_agg w _ _ _ _ _ _ h1,Result.andThen,run_eql_struct,h2],h⟩
    · obtain ⟨r,⟨h1,h2⟩,h⟩ := h
      exact ⟨_,fun w => by simp only [Sem.run_bind,run_eqGuard_agg w _ _ _ _ _ _ h1,Result.andThen,run_neq_struct,h2],h⟩
  · exact absurd h hels
section ops
variable {X : Ctx} {c : Cfg} {N : Cfg → Prop} {d : Option Tmp} {ty : TypeId} {pos : String} {af : Array Edge} {g : Option (Nat × Bool)}
def vv (v : Value) : SV := .one (.c (.v v))
theorem VO.binOp {op : BinOp} {t t2 : TypeId} {x y : Operand} {u v : Value} (hx : (c.ev x).val? = some u) (hy : (c.ev y).val? = some v)
    (h : binK X.P t op u v (fun r => nxt X d N c (vv r)) (VO X ⟨d,.binOp op t x y t2,ty,pos,af,g⟩ c N)) : VO X ⟨d,.binOp op t x y t2,ty,pos,af,g⟩ c N := by
  rcases binK_sound x y h with h | ⟨r,hrun,hn⟩
  · exact h
  refine .of_pure fun ρ σ a w hr => ?_
  · have e1 := SV.val?_spec hx (hr.ev x)
    have e2 := SV.val?_spec hy (hr.ev y)
    refine ⟨r,vv r,?_,rfl,hn.1,hn.2⟩
    have := hrun w
    simp only [execOp,e1,e2,Sem.run_bind] at this ⊢
    rw [this]
    rfl
def unK (op : UnOp) (x : Value) (N : Value → Prop) : Prop :=
  match op,x with
  | .not,.bool b => N (.bool (!b))
  | .neg,.int k n => N (.int k (k.wrap (0 - n)))
  | _,_ => False
theorem VO.unOp {op : UnOp} {t : TypeId} {x : Operand} {u : Value} (hx : (c.ev x).val? = some u) (h : unK op u (fun r => nxt X d N c (vv r))) :
    VO X ⟨d,.unOp op t x,ty,pos,af,g⟩ c N :=
  .of_pure fun ρ σ a w hr => by
    have e1 := SV.val?_spec hx (hr.ev x)
    unfold unK at h
    split at h
    · rename_i b
      exact ⟨.bool (!b),vv (.bool (!b)),by simp [execOp,e1,Op.unary],rfl,h.1,h.2⟩
    · rename_i k n
      exact ⟨.int k (k.wrap (0 - n)),vv (.int k (k.wrap (0 - n))),by simp [execOp,e1,Op.unary,Op.intArith],rfl,h.1,h.2⟩
    · exact h.elim
theorem VO.convInt {src dst : TypeId} {x : Operand} {k k' : IntKind} {n : Int} (hx : c.ev x = vv (.int k n)) (hs : X.P.underlying src = some (.int k)) (hd : X.P.underlying dst = some (.int k'))
    (h : nxt X d N c (vv (.int k' (k'.wrap n)))) : VO X ⟨d,.convert src dst x,ty,pos,af,g⟩ c N :=
  .of_pure fun ρ σ a w hr => by
    have e := hr.ev x
    rw [hx] at e
    have e : a.eval x = .int k n := e
    exact ⟨.int k' (k'.wrap n),vv (.int k' (k'.wrap n)),by simp [execOp,e,convert,run_underlying hs,run_underlying hd,Conv.intToInt],rfl,h.1,h.2⟩
theorem VO.extract {x : Operand} {i : Nat} {l : List S1} {s : S1} (hx : c.ev x = .tup l) (hi : l[i]? = some s) (h : nxt X d N c (.one s)) :
    VO X ⟨d,.extract x i,ty,pos,af,g⟩ c N :=
  .of_pure fun ρ σ a w hr => by
    have e := hr.ev x
    rw [hx] at e
    obtain ⟨vs,e,ha⟩ := e
    obtain ⟨v,hv,hd⟩ := ha.get hi
    exact ⟨v,.one s,by simp [execOp,e,Instr.extract,hv],hd,h.1,h.2⟩
theorem VO.nilCheck {x : Operand} {i off : Nat} (hx : c.ev x = .one (.c (.loc i off))) (h : nxt X d N c (.one (.c (.loc i off)))) : VO X ⟨d,.nilCheck x,ty,pos,af,g⟩ c N :=
  .of_pure fun ρ σ a w hr => by
    have e := hr.ev x
    rw [hx] at e
    obtain ⟨b,hb,e⟩ := e
    exact ⟨.pointer (some ⟨b,off,none⟩),.one (.c (.loc i off)),by simp [execOp,e],⟨b,hb,rfl⟩,h.1,h.2⟩
def lenK (P : Program) (t : TypeId) (s : SV) (N : Value → Prop) : Prop :=
  match s with
  | .one (.c (.v (.string b))) => P.underlying t = some .string ∧ N (.int .i64 b.size)
  | .one (.c (.v (.slice _ n _))) => (∃ e,P.underlying t = some (.slice e)) ∧ N (.int .i64 n)
  | .one (.c (.sl _ _ n _)) => (∃ e,P.underlying t = some (.slice e)) ∧ N (.int .i64 n)
  | _ => False
theorem VO.len {t : TypeId} {x : Operand} (h : lenK X.P t (c.ev x) (fun r => nxt X d N c (vv r))) :
    VO X ⟨d,.call { callee := .builtin .len,args := #[x],argTypes := #[t] },ty,pos,af,g⟩ c N :=
  .of_pure fun ρ σ a w hr => by
    have e := hr.ev x
    unfold lenK at h
    split at h
    · rename_i b hb
      rw [hb] at e
      have e : a.eval x = .string b := e
      exact ⟨.int .i64 b.size,vv (.int .i64 b.size),by simp [execOp,e,resolve,invoke,builtin,Builtin.len_,run_underlying h.1,goInt],rfl,h.2.1,h.2.2⟩
    · rename_i p n q hb
      rw [hb] at e
      have e : a.eval x = .slice p n q := e
      obtain ⟨⟨el,hu⟩,h⟩ := h
      exact ⟨.int .i64 n,vv (.int .i64 n),by simp [execOp,e,resolve,invoke,builtin,Builtin.len_,run_underlying hu,goInt],rfl,h.1,h.2⟩
    · rename_i i o n q hb
      rw [hb] at e
      obtain ⟨b,_,e⟩ := e
      obtain ⟨⟨el,hu⟩,h⟩ := h
      exact ⟨.int .i64 n,vv (.int .i64 n),by simp [execOp,e,resolve,invoke,builtin,Builtin.len_,run_underlying hu,goInt],rfl,h.1,h.2⟩
    · exact h.elim
theorem VO.makeInterface {t : TypeId} {x : Operand} {v : Value} {u : TypeDesc} (hx : (c.ev x).val? = some v) (hu : X.P.underlying t = some u) (hn : ∀ ms,u ≠ .interface ms)
    (h : nxt X d N c (vv (.iface t v))) : VO X ⟨d,.makeInterface t x,ty,pos,af,g⟩ c N :=
  .of_pure fun ρ σ a w hr => by
    have e := SV.val?_spec hx (hr.ev x)
    refine ⟨.iface t v,vv (.iface t v),?_,rfl,h.1,h.2⟩
    simp only [execOp,Instr.makeInterface,e,Sem.run_bind,run_underlying hu,Result.andThen]
    cases u <;> first | rfl | exact absurd rfl (hn _)
def SV.sp? : SV → Option SP
  | .one (.c (.v x)) => some (.v x)
  | .one (.c (.loc i off)) => some (.loc i off)
  | .one (.c (.row i)) => some (.row i)
  | _ => none
theorem SV.sp?_spec {σ : List Value} {s : SV} {p : SP} {y : Value} (h : s.sp? = some p) (hd : DV σ s y) : DP σ p y := by
  cases s with
  | tup _ => simp [SV.sp?] at h
  | one z =>
    cases z with
    | agg _ => simp [SV.sp?] at h
    | c x => cases x <;> simp [SV.sp?] at h <;> subst h <;> exact hd
def spB (p : Option SP) (q : Option (List SP)) : Option (List SP) := match p,q with | some p,some q => some (p :: q) | _,_ => none
def sps? (c : Cfg) : List Operand → Option (List SP)
  | [] => some []
  | x :: l => spB (c.ev x).sp? (sps? c l)
theorem sps?_spec {ρ : List (List Nat)} {σ : List Value} {a : Act} {w : World} (hr : Rel X c ρ σ a w) : ∀ {l : List Operand} {q : List SP},sps? c l = some q → All2 (DP σ) q (l.map a.eval)
  | [],q,h => by simp [sps?] at h;subst h;trivial
  | x :: l,q,h => by
    simp only [sps?,spB] at h
    split at h
    · rename_i p q' h1 h2
      simp at h;subst h
      exact ⟨SV.sp?_spec h1 (hr.ev x),sps?_spec hr h2⟩
    · simp at h
theorem VO.makeFunc {f : FuncId} {fst caps : List Operand} {p q : List SP} (hp : sps? c fst = some p) (hq : sps? c caps = some q) (h : nxt X d N c (.one (.c (.clo f p q)))) :
    VO X ⟨d,.makeFunc (.func f) fst.toArray caps.toArray,ty,pos,af,g⟩ c N :=
  .of_pure fun ρ σ a w hr =>
    ⟨.func (.func f) (fst.map a.eval).toArray (caps.map a.eval).toArray,.one (.c (.clo f p q)),by simp [execOp,Instr.makeFunc],⟨_,_,rfl,sps?_spec hr hp,sps?_spec hr hq⟩,h.1,h.2⟩
end ops
def CallVC (X : Ctx) (c : Cfg) (f : FuncId) (args : List SV) (N : Cfg → SV → Prop) : Prop :=
  ∀ ρ σ a w,Rel X c ρ σ a w → ∀ vals : List Value,All2 (DV σ) args vals →
    Calls X.P f vals.toArray w (fun e w' => ∃ v c' ρ' σ' s,e = .returned v ∧ Rel X c' ρ' σ' a w' ∧ DV σ' s v ∧ N c' s)
def SP.sv : SP → SV
  | .v x => vv x
  | .loc i off => .one (.c (.loc i off))
  | .row i => .one (.c (.row i))
theorem callFunc_run {P : Program} {f : FuncId} (h : calleeOk P f = true) (args : Array Value) (w : World) : (callFunc f args).run P w = .ok (.enter f args) w := by
  unfold calleeOk at h
  cases hf : P.funcs[f]? with
  | none => simp [hf] at h
  | some fn =>
    simp [hf] at h
    have h2 : fn.body.isNone = false := by
      cases hb : fn.body with
      | none => simp [hb] at h
      | some _ => rfl
    simp only [callFunc,Sem.run_bind,run_program,Result.andThen,hf]
    simp [h.1]
    intro hb
    simp [hb] at h2
section ops
variable {X : Ctx} {c : Cfg} {N : Cfg → Prop} {d : Option Tmp} {ty : TypeId} {pos : String} {af : Array Edge} {g : Option (Nat × Bool)}
theorem all2_ev {ρ : List (List Nat)} {σ : List Value} {a : Act} {w : World} (hr : Rel X c ρ σ a w) : ∀ l : List Operand,All2 (DV σ) (l.map c.ev) (l.map a.eval)
  | [] => trivial
  | x :: l => ⟨hr.ev x,all2_ev hr l⟩
theorem all2_sp {σ : List Value} : ∀ {q : List SP} {vs : List Value},All2 (DP σ) q vs → All2 (DV σ) (q.map SP.sv) vs
  | [],[],_ => trivial
  | .v x :: q,y :: vs,h => ⟨h.1,all2_sp h.2⟩
  | .loc i o :: q,y :: vs,h => ⟨h.1,all2_sp h.2⟩
  | .row i :: q,y :: vs,h => ⟨h.1,all2_sp h.2⟩
  | [],_ :: _,h => h.elim
  | .v _ :: _,[],h => h.elim
  | .loc _ _ :: _,[],h => h.elim
  | .row _ :: _,[],h => h.elim
theorem VO.call {fo : Operand} {xs : List Operand} {ts : Array TypeId} {f : FuncId} {fst cap : List SP} (hf : c.ev fo = .one (.c (.clo f fst cap))) (hok : calleeOk X.P f = true)
    (h : CallVC X c f (fst.map SP.sv ++ xs.map c.ev ++ cap.map SP.sv) (fun c' s => nxt X d N c' s)) :
    VO X ⟨d,.call { callee := .value fo,args := xs.toArray,argTypes := ts },ty,pos,af,g⟩ c N := by
  intro ρ σ a w hr
  have e := hr.ev fo
  rw [hf] at e
  obtain ⟨us,vs,e,hu,hv⟩ := e
  have hrun : (execOp a.eval ⟨d,.call { callee := .value fo,args := xs.toArray,argTypes := ts },ty,pos,af,g⟩).run X.P w = .ok (.enter f (us ++ xs.map a.eval ++ vs).toArray) w := by
    simp [execOp,resolve,Deferred.ofValue,e,invoke,callFunc_run hok]
  unfold Oper.wp
  rw [hrun]
  refine (h ρ σ a w hr _ (All2.append (All2.append (all2_sp hu) (all2_ev hr xs)) (all2_sp hv))).mono ?_
  rintro e' w' ⟨v,c',ρ',σ',s,rfl,hr',hs,hd,hn⟩
  exact ⟨_,ρ',σ',hr'.put hd hs,hn⟩
def svB (v : Option Value) (r : Option (List Value)) : Option (List Value) := match v,r with | some v,some r => some (v :: r) | _,_ => none
def svals? : List SV → Option (List Value)
  | [] => some []
  | s :: l => svB s.val? (svals? l)
theorem svals?_spec {σ : List Value} : ∀ {l : List SV} {vs us : List Value},svals? l = some vs → All2 (DV σ) l us → us = vs
  | [],vs,[],h,_ => by simp [svals?] at h;exact h.symm
  | s :: l,vs,u :: us,h,ha => by
    simp only [svals?,svB] at h
    split at h
    · rename_i v r h1 h2
      simp at h;subst h
      rw [SV.val?_spec h1 ha.1,svals?_spec h2 ha.2]
    · simp at h
  | [],_,_ :: _,_,h => h.elim
  | _ :: _,_,[],_,h => h.elim
theorem CallVC.pure {f : FuncId} {args : List SV} {vs : List Value} {r : Value} {s : SV} {N : Cfg → SV → Prop} (hv : svals? args = some vs)
    (hc : ∀ w,Calls X.P f vs.toArray w (fun e w' => e = .returned r ∧ Below w.heap.size w w')) (hs : ∀ σ,DV σ s r) (hN : N c s) : CallVC X c f args N := by
  intro ρ σ a w hr vals ha
  rw [svals?_spec hv ha]
  refine (hc w).mono ?_
  rintro e w' ⟨rfl,hb⟩
  exact ⟨r,c,ρ,σ,s,rfl,hr.below hb,hs σ,hN⟩
def fillS (places : List (Nat × Nat)) : List SC → List (Nat × S1) → Option (List SC)
  | acc,[] => some acc
  | acc,(i,s) :: rest => match places[i]? with
    | some (off,n) => if s.cells.length = n ∧ off + n ≤ acc.length then fillS places (splice acc off s.cells) rest else none
    | none => none
def psB (i : Nat) (s : SV) (r : Option (List (Nat × S1))) : Option (List (Nat × S1)) := match s,r with | .one s,some r => some ((i,s) :: r) | _,_ => none
def partsS (c : Cfg) : List (Nat × Operand) → Option (List (Nat × S1))
  | [] => some []
  | (i,x) :: l => psB i (c.ev x) (partsS c l)
theorem splice_fold (vs : List Value) : ∀ (off : Nat) (acc : Array Value) (k : Nat),off + k + vs.length ≤ acc.size →
    ((vs.zipIdx k).foldl (fun cs (p : Value × Nat) => cs.setIfInBounds (off + p.2) p.1) acc).toList = acc.toList.take (off + k) ++ vs ++ acc.toList.drop (off + k + vs.length) := by
  induction vs with
  | nil => intro off acc k _;simp
  | cons v vs ih =>
    intro off acc k h
    simp only [List.zipIdx_cons,List.foldl_cons]
    rw [ih off _ (k + 1) (by simp at h ⊢;omega)]
    simp only [Array.toList_setIfInBounds,List.length_cons]
    simp only [List.length_cons] at h
    have hlt : off + k < acc.toList.length := by simp;omega
    rw [show off + (k + 1) = off + k + 1 by omega,List.take_add_one,List.take_set_of_le (Nat.le_refl _)]
    rw [List.getElem?_set_self hlt]
    rw [List.drop_set_of_lt (by omega)]
    simp
    congr 1
    omega
theorem fillS_spec {ρ : List (List Nat)} {σ : List Value} {a : Act} {w : World} (hr : Rel X c ρ σ a w) {places : List (Nat × Nat)} (place : Nat → Option (Nat × Nat)) (hpl : ∀ i p,places[i]? = some p → place i = some p) :
    ∀ {parts : List (Nat × Operand)} {ps : List (Nat × S1)} {acc out : List SC} {cs : Array Value},partsS c parts = some ps → (∀ p ∈ ps,p.2.One) → fillS places acc ps = some out → All2 (DC σ) acc cs.toList →
      ∃ cs' : Array Value,Instr.fill place cs (parts.map fun p => (p.1,a.eval p.2)) = some cs' ∧ All2 (DC σ) out cs'.toList
  | [],ps,acc,out,cs,h,_,hf,ha => by
    simp [partsS] at h;subst h
    simp [fillS] at hf;subst hf
    exact ⟨cs,rfl,ha⟩
  | (i,x) :: parts,ps,acc,out,cs,h,ho,hf,ha => by
    simp only [partsS,psB] at h
    split at h
    · rename_i s r h1 h2
      simp at h;subst h
      simp only [fillS] at hf
      split at hf
      · rename_i off n hp
        split at hf
        · rename_i hc
          have he := hr.ev x
          rw [h1] at he
          obtain ⟨hs2,_⟩ := (ho (i,s) (by simp)).cells hr.one he
          have hl1 := hs2.length
          have hl2 := ha.length
          simp at hl1 hl2
          have hsp := splice_fold (a.eval x).cells.toList off cs 0 (by simp;omega)
          simp only [Nat.add_zero] at hsp
          have hnew : All2 (DC σ) (splice acc off s.cells) ((((a.eval x).cells.toList.zipIdx 0).foldl (fun cs (p : Value × Nat) => cs.setIfInBounds (off + p.2) p.1) cs).toList) := by
            rw [hsp,show ((a.eval x).cells.toList.length) = s.cells.length by simp;omega]
            exact All2.append (All2.append (ha.take off) hs2) (ha.drop _)
          obtain ⟨cs',hfill,hout⟩ := fillS_spec hr place hpl h2 (fun p hp => ho p (by simp [hp])) hf hnew
          refine ⟨cs',?_,hout⟩
          simp only [List.map_cons,Instr.fill,hpl _ _ hp]
          rw [if_neg (by simp;omega)]
          rw [← hfill]
          congr 1
          rw [← Array.foldl_toList]
          simp
        · simp at hf
      · simp at hf
    · simp at h
theorem mapM_places {P : Program} (w : World) : ∀ (fs : List Field) (l : List (Nat × Nat)),(fs.mapM fun x => (szOf P x.type).map fun n => (x.offset,n)) = some l →
    (fs.mapM fun (f : Field) => (do pure (f.offset,← Go.sizeOf f.type) : Sem (Nat × Nat))).run P w = .ok l w
  | [],l,h => by simp at h;subst h;rfl
  | f :: fs,l,h => by
    simp only [List.mapM_cons] at h ⊢
    cases hz : szOf P f.type with
    | none => simp [hz] at h
    | some n =>
      cases hm : (fs.mapM fun x => (szOf P x.type).map fun n => (x.offset,n)) with
      | none => simp [hz,hm] at h
      | some l' =>
        simp [hz,hm] at h
        subst h
        have ih := mapM_places w fs l' hm
        simp only [Sem.run_bind,sizeOf_run hz,Result.andThen,Sem.run_pure] at ih ⊢
        rw [ih]
theorem VO.build {t : TypeId} {parts : List (Nat × Operand)} {places : List (Nat × Nat)} {zs : List Value} {ps : List (Nat × S1)} {out : List SC} (hpl : fieldsOf X.P t = some places) (hz : zeroCells X.P t = some zs)
    (hp : partsS c parts = some ps) (ho : ∀ p ∈ ps,p.2.One) (hf : fillS places (zs.map .v) ps = some out) (h : nxt X d N c (.one (.agg out))) :
    VO X ⟨d,.build t parts.toArray,ty,pos,af,g⟩ c N :=
  .of_pure fun ρ σ a w hr => by
    unfold fieldsOf at hpl
    split at hpl
    · rename_i fs hu
      have hm := mapM_places (P := X.P) w fs.toList places hpl
      unfold zeroCells at hz
      cases hi : X.P.info? t with
      | none => simp [hi] at hz
      | some i =>
        cases hzv : i.zero with
        | none => simp [hi,hzv] at hz
        | some zv =>
          simp [hi,hzv] at hz
          obtain ⟨cs',hfill,hout⟩ := fillS_spec hr (places[·]?) (fun _ _ h => h) hp ho hf (cs := zv.cells) (by rw [hz];exact all2_vals zs)
          refine ⟨.agg cs',.one (.agg out),?_,⟨cs'.toList,by simp,hout⟩,h.1,h.2⟩
          have hm2 : (fs.mapM fun (f : Field) => (do pure (f.offset,← Go.sizeOf f.type) : Sem (Nat × Nat))).run X.P w = .ok places.toArray w := by
            rw [Array.mapM_eq_mapM_toList]
            simp only [Sem.run_map]
            rw [hm]
            rfl
          simp only [execOp,Instr.build,zeroValue,typeInfo,Sem.run_bind,run_program,hi,Sem.run_pure,hzv,Result.andThen,run_underlying hu,hm2]
          simp only [List.map_toArray,List.getElem?_toArray]
          rw [hfill]
          rfl
    · simp at hpl
theorem VO.buildSlice {t e : TypeId} {n sz : Nat} {parts : List (Nat × Operand)} {zs : List Value} {ps : List (Nat × S1)} {out : List SC} (he : elemSz X.P t = some (e,sz)) (hz : zeroCells X.P e = some zs) (hzl : zs.length = sz)
    (hbig : n * sz ≤ 16777216) (hp : partsS c parts = some ps) (ho : ∀ p ∈ ps,p.2.One) (hf : fillS ((List.range n).map fun i => (i * sz,sz)) ((List.range (n * sz)).map fun i => .v (zs.toArray[i % sz]!)) ps = some out)
    (h : nxt X d N { c with loc := c.loc ++ [.cells out e] } (.one (.c (.sl c.loc.length 0 n n)))) :
    VO X ⟨d,.buildSlice t n parts.toArray,ty,pos,af,g⟩ c N :=
  .of_value fun ρ σ a w hr => by
    unfold elemSz at he
    split at he
    · rename_i e' hu
      cases hze : szOf X.P e' with
      | none => simp [hze] at he
      | some k =>
        simp [hze] at he
        obtain ⟨rfl,rfl⟩ := he
        unfold zeroCells at hz
        cases hi : X.P.info? e' with
        | none => simp [hi] at hz
        | some i =>
          cases hzv : i.zero with
          | none => simp [hi,hzv] at hz
          | some zv =>
            simp [hi,hzv] at hz
            have hzsz : zv.cells.size = k := by rw [← hzl,← hz];simp
            have hcs : All2 (DC σ) ((List.range (n * k)).map fun i => SC.v (zs.toArray[i % k]!)) (((Array.range (n * k)).map (zv.cells[· % zv.cells.size]!)).toList) := by
              have : ((Array.range (n * k)).map (zv.cells[· % zv.cells.size]!)).toList = (List.range (n * k)).map fun i => zs.toArray[i % k]! := by
                simp only [Array.toList_map,Array.toList_range]
                rw [hzsz,← hz]
              rw [this]
              have e2 : ((List.range (n * k)).map fun i => SC.v (zs.toArray[i % k]!)) = ((List.range (n * k)).map fun i => zs.toArray[i % k]!).map SC.v := by simp
              rw [e2]
              exact all2_vals _
            obtain ⟨cs',hfill,hout⟩ := fillS_spec hr (places := (List.range n).map fun i => (i * k,k)) (fun i => some (i * k,k)) (fun i p hp => by
              simp [List.getElem?_map] at hp
              obtain ⟨j,hj,rfl⟩ := hp
              rw [List.getElem?_range (by
                rcases Nat.lt_or_ge i n with h' | h'
                · exact h'
                · rw [List.getElem?_eq_none (by simpa using h')] at hj;simp at hj)] at hj
              cases hj;rfl) hp ho hf hcs
            have hR := hr.alloc e' hout
            refine ⟨.slice (some ⟨w.heap.size,0,none⟩) n n,_,_,_,_,_,?_,hR,?_,h.1,h.2⟩
            · simp only [execOp,Instr.buildSlice,Sem.run_bind,run_underlying hu,Result.andThen,sizeOf_run hze]
              rw [if_neg (by omega)]
              simp only [zeroValue,typeInfo,Sem.run_bind,run_program,hi,Sem.run_pure,hzv,Result.andThen,List.map_toArray]
              by_cases h0 : n * k = 0
              · rw [if_pos h0]
                have e0 : (Array.map (fun x => (#[] : Array Value)[x % (#[] : Array Value).size]!) (Array.range (n * k))) = ((Array.range (n * k)).map (zv.cells[· % zv.cells.size]!)) := by rw [h0];simp
                simp only [Sem.run_bind,Sem.run_pure,Result.andThen,e0,hfill,newRow,run_newObj]
                simp
              · rw [if_neg h0]
                simp only [Sem.run_bind,Sem.run_pure,Result.andThen,run_program,hi,hzv,hfill,newRow,run_newObj]
                simp
            · exact ⟨w.heap.size,by rw [← hr.lenS];simp,rfl⟩
    · simp at he
end ops
theorem append_cases {P : Program} (w : World) (base : Nat) (t ty e : TypeId) (i : TypeInfo) (z : Value) (size bytes : Nat) (ht : P.underlying t = some (.slice e)) (hi : P.info? e = some i) (hz : i.zero = some z)
    (hsize : i.size = size) (hby : i.bytes = bytes) (hzs : z.cells.size = size) (hsz : 0 < size)
    (v : Value) (n : Nat) (xs : List Value) (hown : w.ownsRow base e size v n xs)
    (a : Addr) (m c : Nat) (news : List Value) (hl : news.length = m * size) (hnews : ∀ j u,news[j]? = some u → w.cell? (a.add j) = some u) (h1 : ∀ u ∈ news,u.oneCell' = true)
    (h63 : n + m ≤ maxLen) (hbytes : (n + m) * bytes ≤ 140737488355328) (hbase : base ≤ w.heap.size) :
    ∃ v' w',(Builtin.append_ #[t,t] ty #[v,.slice (some a) m c]).run P w = .ok v' w' ∧ w'.ownsRow base e size v' (n + m) (xs ++ news) ∧ w.grownBy w' v.ownBlock ∧
      (∀ k,v'.ownBlock = some k → v.ownBlock = some k ∨ w.heap.size ≤ k) := by
  obtain ⟨v',w',hr,h2,h3,h4⟩ := run_append_own (P := P) w base t ty e i z size bytes ht hi hz hsize hby hzs hsz v n xs hown a m c news hl hnews h1 h63 hbytes hbase
  refine ⟨v',w',hr,h2,h3,?_⟩
  subst hsize;subst hby
  have hsmall : n + m ≤ 9223372036854775807 := by simp only [maxLen] at h63;omega
  rcases hown.2 with ⟨rfl,rfl⟩ | ⟨g,cap,cur,rfl,hbg,hg,hnc,hcm,hcs,htake⟩
  · by_cases hm : m = 0
    · intro k hk
      have := h4.2 ⟨rfl,hm⟩
      subst this
      simp [Value.ownBlock] at hk
    · have hr2 := run_append_nil (P := P) w t ty e i z ht hi hz a m c news hl hnews (by omega) (by omega) (by have hb := hbytes;simp only [Nat.zero_add] at hb;omega)
      rw [hr] at hr2
      injection hr2 with e1 e2
      subst e1
      intro k hk
      simp [Value.ownBlock] at hk
      exact .inr (by omega)
  · by_cases hroom : n + m ≤ cap
    · have hfit : n * i.size + news.length ≤ cur.size := by rw [hl,hcs,← Nat.add_mul];exact Nat.mul_le_mul_right _ hroom
      have hr2 := run_append_room (P := P) w t ty e i ht hi g n cap cur hg a m c news hl hnews h1 hroom hfit
      rw [hr] at hr2
      injection hr2 with e1 e2
      subst e1
      intro k hk
      exact .inl hk
    · have holds : ∀ j u,xs[j]? = some u → w.cell? ((⟨g,0,none⟩ : Addr).add j) = some u := hown.cells (g := g) rfl
      have hr2 := run_append_grow (P := P) w t ty e i z ht hi hz ⟨g,0,none⟩ n cap xs hown.1 holds a m c news hl hnews (by omega) (by omega) (growslice_fits (by omega) hbytes)
      rw [hr] at hr2
      injection hr2 with e1 e2
      subst e1
      intro k hk
      simp [Value.ownBlock] at hk
      exact .inr (by omega)
theorem set_nil_mem : ∀ {ρ : List (List Nat)} {i b : Nat},b ∈ (ρ.set i []).flatten → ∃ j fq,j ≠ i ∧ ρ[j]? = some fq ∧ b ∈ fq
  | [],i,b,h => by simp at h
  | f :: ρ,0,b,h => by
    simp only [List.set_cons_zero,List.flatten_cons,List.nil_append] at h
    obtain ⟨fq,h1,h2⟩ := List.mem_flatten.1 h
    obtain ⟨j,hj⟩ := List.mem_iff_getElem?.1 h1
    exact ⟨j + 1,fq,by omega,by simpa using hj,h2⟩
  | f :: ρ,i + 1,b,h => by
    simp only [List.set_cons_succ,List.flatten_cons,List.mem_append] at h
    rcases h with h | h
    · exact ⟨0,f,by omega,by simp,h⟩
    · obtain ⟨j,fq,h1,h2,h3⟩ := set_nil_mem h
      exact ⟨j + 1,fq,by omega,by simpa using h2,h3⟩
theorem set_nil_nodup : ∀ {ρ : List (List Nat)} {i : Nat},ρ.flatten.Nodup → (ρ.set i []).flatten.Nodup
  | [],i,h => by simp
  | f :: ρ,0,h => by
    rw [List.flatten_cons,List.nodup_append] at h
    simpa using h.2.1
  | f :: ρ,i + 1,h => by
    rw [List.flatten_cons,List.nodup_append] at h
    rw [List.set_cons_succ,List.flatten_cons,List.nodup_append]
    refine ⟨h.1,set_nil_nodup h.2.1,fun a ha b hb e => ?_⟩
    obtain ⟨j,fq,_,h2,h3⟩ := set_nil_mem hb
    exact h.2.2 a ha b (mem_flat h2 h3) e
theorem ownsRow_one {w : World} {base : Nat} {e : TypeId} {sz n : Nat} {v : Value} {xs : List Value} (h : w.ownsRow base e sz v n xs) : v.oneCell' = true := by
  rcases h.2 with ⟨rfl,_⟩ | ⟨g,cap,cur,rfl,_⟩ <;> rfl
section
variable {X : Ctx} {c : Cfg} {N : Cfg → Prop} {d : Option Tmp} {ty : TypeId} {pos : String} {af : Array Edge} {g : Option (Nat × Bool)}
theorem Rel.move {ρ : List (List Nat)} {σ : List Value} {a : Act} {w w' : World} (h : Rel X c ρ σ a w) {i : Nat} {fp fp' : List Nat} {v' : Value} {o' : LO} (hi : i < c.loc.length) (hfp : ρ[i]? = some fp)
    (hf : Fr (· ∈ fp) w w') (hsub : ∀ b ∈ fp',b ∈ fp ∨ (w.heap.size ≤ b ∧ b < w'.heap.size)) (hnd : fp'.Nodup) (hd : DL (σ ++ [v']) w' fp' v' o') (h1 : v'.oneCell' = true) :
    Rel X { c with loc := c.loc.set i .gone ++ [o'] } (ρ.set i [] ++ [fp']) (σ ++ [v']) a w' := by
  have hup : Up σ (σ ++ [v']) := Up.append _ _
  have hpl : fp ∈ ρ := List.mem_of_getElem? hfp
  have hmem : ∀ b ∈ (ρ.set i [] ++ [fp']).flatten,b ∈ ρ.flatten ∨ (w.heap.size ≤ b ∧ b < w'.heap.size) := fun b hb => by
    rw [List.flatten_append,List.mem_append] at hb
    rcases hb with hb | hb
    · obtain ⟨j,fq,_,h2,h3⟩ := set_nil_mem hb
      exact .inl (mem_flat h2 h3)
    · simp at hb
      rcases hsub b hb with h' | h'
      · exact .inl (mem_flat hfp h')
      · exact .inr h'
  refine ⟨fun t s he => ?_,by simp [h.len],by simp [h.lenS],fun j o fq u ho hb hu => ?_,?_,fun b hb => ?_,fun b hb => ?_,?_,h.defers,h.size,fun u hu => ?_,fun j v hv => hup _ _ (h.pin j v hv)⟩
  · obtain ⟨v,hv,hdv⟩ := h.env t s he
    exact ⟨v,hv,DV.mono hup _ _ hdv⟩
  · rcases Nat.lt_or_ge j c.loc.length with hj | hj
    · rw [List.getElem?_append_left (by simpa using hj)] at ho
      rw [List.getElem?_append_left (by simpa [h.len] using hj)] at hb
      rw [List.getElem?_append_left (by rw [h.lenS];exact hj)] at hu
      by_cases e : j = i
      · subst e
        rw [List.getElem?_set_self hj] at ho
        cases ho
        trivial
      · rw [List.getElem?_set_ne (by omega)] at ho hb
        exact DL.kept hup hf.size (fun k hk => hf.block k (h.lt k (mem_flat hb hk)) (fun hk2 => e (flat_inj h.inj hb hfp hk hk2))) (h.loc j o fq u ho hb hu)
    · rw [List.getElem?_append_right (by simpa using hj)] at ho
      rw [List.getElem?_append_right (by simpa [h.len] using hj)] at hb
      rw [List.getElem?_append_right (by rw [h.lenS];exact hj)] at hu
      simp only [List.length_set] at ho hb
      have e0 : j - c.loc.length = 0 := by
        rcases Nat.eq_zero_or_pos (j - c.loc.length) with e | e
        · exact e
        · rw [List.getElem?_eq_none (by simp;omega)] at ho;simp at ho
      rw [e0] at ho
      rw [show j - ρ.length = 0 by rw [h.len];exact e0] at hb
      rw [show j - σ.length = 0 by rw [h.lenS];exact e0] at hu
      simp at ho hb hu
      subst ho;subst hb;subst hu
      exact hd
  · rw [List.flatten_append,List.nodup_append]
    refine ⟨set_nil_nodup h.inj,by simpa using hnd,fun b hb b' hb' e => ?_⟩
    subst e
    simp at hb'
    obtain ⟨j,fq,hne,h2,h3⟩ := set_nil_mem hb
    rcases hsub b hb' with h' | h'
    · exact hne (flat_inj h.inj h2 hfp h3 h')
    · have := h.lt b (mem_flat h2 h3);omega
  · rcases hmem b hb with h' | h'
    · exact Nat.lt_of_lt_of_le (h.lt b h') hf.size
    · exact h'.2
  · rcases hmem b hb with h' | h'
    · exact h.fresh b h'
    · exact .inl (Nat.le_trans h.low.size h'.1)
  · refine ⟨hf.os.trans h.low.os,hf.tape.trans h.low.tape,hf.output.trans h.low.output,Nat.le_trans h.low.size hf.size,fun k hk hx => ?_⟩
    rw [← h.low.block k hk hx]
    refine hf.block k (Nat.lt_of_lt_of_le hk h.low.size) (fun hk2 => ?_)
    rcases h.fresh k (mem_flat hfp hk2) with h' | h'
    · omega
    · exact hx h'
  · rcases List.mem_append.1 hu with hu | hu
    · exact h.one u hu
    · simp at hu;subst hu;exact h1
theorem Rel.reRow {ρ : List (List Nat)} {σ : List Value} {a : Act} {w w' : World} (h : Rel X c ρ σ a w) {i : Nat} {e sz n e' sz' n' : Nat} {xs xs' : List Value} {v v' : Value} (hi : c.loc[i]? = some (.row e sz n xs))
    (hv : σ[i]? = some v) (hg : w.grownBy w' v.ownBlock) (ho : w'.ownsRow 0 e' sz' v' n' xs') (hk : ∀ k,v'.ownBlock = some k → v.ownBlock = some k ∨ w.heap.size ≤ k) :
    ∃ ρ',Rel X { c with loc := c.loc.set i .gone ++ [.row e' sz' n' xs'] } ρ' (σ ++ [v']) a w' := by
  obtain ⟨fp,hfp⟩ := h.fp hv
  have hvb := (h.loc i _ fp v hi hfp hv).2
  have hf : Fr (· ∈ fp) w w' := ⟨hg.os,hg.tape,hg.output,hg.size,fun k hk1 hx => hg.block k hk1 (fun e => hx (hvb k e.symm))⟩
  cases hb : v'.ownBlock with
  | none => exact ⟨_,h.move (fp' := []) (List.getElem?_eq_some_iff.1 hi).1 hfp hf (by simp) (by simp) ⟨ho,by simp [hb]⟩ (ownsRow_one ho)⟩
  | some k =>
    refine ⟨_,h.move (fp' := [k]) (List.getElem?_eq_some_iff.1 hi).1 hfp hf (fun b hbm => ?_) (by simp) ⟨ho,by simp [hb]⟩ (ownsRow_one ho)⟩
    simp at hbm;subst hbm
    rcases hk b hb with h' | h'
    · exact .inl (hvb b h')
    · exact .inr ⟨h',(ho.lt _ hb).2⟩
theorem VO.append {x y : Operand} {t e i j m k sz n : Nat} {l : List SC} {news xs : List Value} {t' : TypeId} {ti : TypeInfo} {z : Value} (hx : c.ev x = .one (.c (.row i))) (hy : c.ev y = .one (.c (.sl j 0 m k)))
    (ht : X.P.underlying t = some (.slice e)) (hti : X.P.info? e = some ti) (hz : ti.zero = some z) (hsz : ti.size = sz) (hzs : z.cells.size = sz) (h0 : 0 < sz) (hi : c.loc[i]? = some (.row e sz n xs)) (hj : c.loc[j]? = some (.cells l t'))
    (hl : vals? l = some news) (hnl : news.length = m * sz) (h1 : ∀ u ∈ news,u.oneCell' = true) (h63 : n + m ≤ maxLen) (hby : (n + m) * ti.bytes ≤ 140737488355328)
    (h : nxt X d N { c with loc := c.loc.set i .gone ++ [.row e sz (n + m) (xs ++ news)] } (.one (.c (.row c.loc.length)))) :
    VO X ⟨d,.call { callee := .builtin .append,args := #[x,y],argTypes := #[t,t] },ty,pos,af,g⟩ c N :=
  .of_value fun ρ σ a w hr => by
    have ex := hr.ev x
    rw [hx] at ex
    have ex : σ[i]? = some (a.eval x) := ex
    have ey := hr.ev y
    rw [hy] at ey
    obtain ⟨b,hb1,ey⟩ := ey
    obtain ⟨fp,hfp⟩ := hr.locAt hi
    have hd := hr.loc i _ fp _ hi hfp ex
    obtain ⟨cs,hw,ha,_⟩ := hr.getLoc hj hb1
    have hcs := vals?_spec hl ha
    subst hcs
    obtain ⟨v',w',hrun,hown,hgr,hk⟩ := append_cases (P := X.P) w 0 t ty e ti z sz ti.bytes ht hti hz hsz rfl hzs h0 (a.eval x) n xs hd.1 ⟨b,0,none⟩ m k cs hnl
      (fun j u hu => by rw [add_add,cell_of_row w b _ _ _ _ hw];simpa using hu) h1 h63 hby (Nat.zero_le _)
    obtain ⟨ρ',hR⟩ := hr.reRow hi ex hgr hown hk
    refine ⟨v',w',_,ρ',_,.one (.c (.row c.loc.length)),?_,hR,?_,h.1,h.2⟩
    · simp only [execOp,resolve,invoke,builtin,Sem.run_bind,Sem.run_pure,Result.andThen_ok,List.map_toArray,List.map_cons,List.map_nil,ey]
      rw [hrun];rfl
    · show (σ ++ [v'])[c.loc.length]? = some v'
      rw [← hr.lenS];simp
end
def B (l : List UInt8) : ByteArray := ⟨l.toArray⟩
def bget (b : ByteArray) (n : Nat) : UInt8 := b.data.toList.getD n 0
theorem B_data (b : ByteArray) : B b.data.toList = b := by cases b;rfl
theorem B_inj {l m : List UInt8} : B l = B m ↔ l = m := ⟨fun h => by have := congrArg (fun b : ByteArray => b.data.toList) h;simpa [B] using this,fun h => by rw [h]⟩
theorem B_size (l : List UInt8) : (B l).size = l.length := by simp [B,ByteArray.size]
theorem B_append (l m : List UInt8) : B l ++ B m = B (l ++ m) := by
  apply ByteArray.ext
  simp [B]
theorem B_toList (l : List UInt8) : (B l).toList = l := by rw [ByteArray.toList_eq];simp [B]
theorem B_bget (l : List UInt8) (n : Nat) : bget (B l) n = l.getD n 0 := rfl
theorem B_extract (l : List UInt8) (a b : Nat) : (B l).extract a b = B ((l.drop a).take (b - a)) := ByteArray.extract_mk l a b
def bcells (l : List UInt8) : List Value := l.map fun b => Value.int .u8 b.toNat
theorem bcells_append (l m : List UInt8) : bcells (l ++ m) = bcells l ++ bcells m := by simp [bcells]
theorem bcells_length (l : List UInt8) : (bcells l).length = l.length := by simp [bcells]
section
variable {X : Ctx} {c : Cfg} {N : Cfg → Prop} {d : Option Tmp} {ty : TypeId} {pos : String} {af : Array Edge} {g : Option (Nat × Bool)}
def PO (X : Ctx) (o : Oper) (c : Cfg) (s : SV) : Prop := ∀ ρ σ a w,Rel X c ρ σ a w → ∃ v,(execOp a.eval o).run X.P w = .ok (.value v) w ∧ DV σ s v
theorem VO.of_po {o : Oper} {s : SV} (h : PO X o c s) (hn : nxt X o.dst N c s) : VO X o c N :=
  .of_pure fun ρ σ a w hr => let ⟨v,h1,h2⟩ := h ρ σ a w hr;⟨v,s,h1,h2,hn.1,hn.2⟩
theorem PO.indexS {t : TypeId} {x i : Operand} {b : ByteArray} {k : IntKind} {n : Int} (hx : c.ev x = vv (.string b)) (hi : c.ev i = vv (.int k n)) (ht : X.P.underlying t = some .string) (h0 : 0 ≤ n) (h1 : n < b.size) :
    PO X ⟨d,.index t x i,ty,pos,af,g⟩ c (vv (.int .u8 (bget b n.toNat).toNat)) := fun ρ σ a w hr => by
  have e1 := hr.ev x
  rw [hx] at e1
  have e1 : a.eval x = .string b := e1
  have e2 := hr.ev i
  rw [hi] at e2
  have e2 : a.eval i = .int k n := e2
  refine ⟨_,?_,rfl⟩
  have hn : n.toNat < b.data.size := by have : b.size = b.data.size := rfl;omega
  have hg : bget b n.toNat = b[n.toNat]'(by omega) := by
    have h2 : b.data.toList[n.toNat]? = some (b.data[n.toNat]'hn) := by simp [hn]
    rw [bget,List.getD_eq_getElem?_getD,h2]
    rfl
  simp only [execOp,e1,e2,Sem.run_bind,run_index_string w t b k n ht,dif_pos (And.intro h0 h1),Result.andThen,Sem.run_pure,hg]
def optJ : SV → Option (Option Int)
  | .one (.c (.v (.int _ n))) => some (some n)
  | _ => none
def optI (c : Cfg) : Option Operand → Option (Option Int)
  | none => some none
  | some x => optJ (c.ev x)
theorem optI_spec {ρ : List (List Nat)} {σ : List Value} {a : Act} {w : World} (hr : Rel X c ρ σ a w) {x : Operand} {n : Int} (h : optI c (some x) = some (some n)) : ∃ k,a.eval x = .int k n := by
  unfold optI optJ at h
  simp only at h
  split at h
  · rename_i k m hm
    simp at h;subst h
    have e := hr.ev x
    rw [hm] at e
    exact ⟨k,e⟩
  · simp at h
theorem PO.sliceS {t : TypeId} {x : Operand} {lo hi : Option Operand} {b : ByteArray} {l h : Option Int} (hx : c.ev x = vv (.string b)) (ht : X.P.underlying t = some .string)
    (hl : optI c lo = some l) (hh : optI c hi = some h) (h0 : 0 ≤ l.getD 0) (h1 : l.getD 0 ≤ h.getD b.size) (h2 : h.getD b.size ≤ b.size) :
    PO X ⟨d,.slice t x lo hi none,ty,pos,af,g⟩ c (vv (.string (b.extract (l.getD 0).toNat (h.getD b.size).toNat))) := fun ρ σ a w hr => by
  have e1 := hr.ev x
  rw [hx] at e1
  have e1 : a.eval x = .string b := e1
  refine ⟨_,?_,rfl⟩
  have hsl : ∀ lo hi,(Instr.sliceAt t (.string b) lo hi none).run X.P w = (Instr.slice t (.string b) lo hi none).run X.P w := fun lo hi => run_sliceAt_string w t _ lo hi none ht
  simp only [execOp,e1,Option.map_none]
  cases lo with
  | none =>
    simp [optI] at hl;subst hl
    cases hi with
    | none =>
      simp [optI] at hh;subst hh
      simp only [Option.getD_none,Option.map_none,hsl,run_slice_string_all w t b ht,Sem.run_bind,Sem.run_pure,Result.andThen]
      rfl
    | some y =>
      obtain ⟨n,rfl⟩ : ∃ n,h = some n := by
        unfold optI optJ at hh;simp only at hh
        split at hh
        · exact ⟨_,(Option.some.inj hh).symm⟩
        · simp at hh
      obtain ⟨k,e2⟩ := optI_spec hr hh
      simp only [Option.getD_some,Option.getD_none] at h0 h1 h2 ⊢
      simp only [Option.map_some,Option.map_none,e2,hsl,run_slice_string_to_if w t b k n ht,Sem.run_bind]
      rw [if_pos ⟨h1,h2⟩]
      simp
  | some z =>
    obtain ⟨m,rfl⟩ : ∃ n,l = some n := by
      unfold optI optJ at hl;simp only at hl
      split at hl
      · exact ⟨_,(Option.some.inj hl).symm⟩
      · simp at hl
    obtain ⟨k0,e0⟩ := optI_spec hr hl
    cases hi with
    | none =>
      simp [optI] at hh;subst hh
      simp only [Option.getD_some,Option.getD_none] at h0 h1 h2 ⊢
      simp only [Option.map_some,Option.map_none,e0,hsl,run_slice_string_from_if w t b k0 m ht,Sem.run_bind]
      rw [if_pos ⟨h0,h1⟩]
      simp
    | some y =>
      obtain ⟨n,rfl⟩ : ∃ n,h = some n := by
        unfold optI optJ at hh;simp only at hh
        split at hh
        · exact ⟨_,(Option.some.inj hh).symm⟩
        · simp at hh
      obtain ⟨k,e2⟩ := optI_spec hr hh
      simp only [Option.getD_some] at h0 h1 h2 ⊢
      simp only [Option.map_some,e0,e2,hsl,run_slice_string w t b k0 k m n ht h0 h1 h2,Sem.run_bind]
      simp
theorem PO.min2 {x y : Operand} {ts : Array TypeId} {k k' : IntKind} {n m : Int} (hx : c.ev x = vv (.int k n)) (hy : c.ev y = vv (.int k' m)) :
    PO X ⟨d,.call { callee := .builtin .min,args := #[x,y],argTypes := ts },ty,pos,af,g⟩ c (vv (.int k (if m < n then m else n))) := fun ρ σ a w hr => by
  have e1 := hr.ev x
  rw [hx] at e1
  have e1 : a.eval x = .int k n := e1
  have e2 := hr.ev y
  rw [hy] at e2
  have e2 : a.eval y = .int k' m := e2
  refine ⟨_,?_,rfl⟩
  simp [execOp,resolve,invoke,builtin,e1,e2,run_min_int2]
theorem PO.nilCheckV {x : Operand} {ad : Addr} (hx : c.ev x = vv (.pointer (some ad))) : PO X ⟨d,.nilCheck x,ty,pos,af,g⟩ c (vv (.pointer (some ad))) := fun ρ σ a w hr => by
  have e := hr.ev x
  rw [hx] at e
  have e : a.eval x = .pointer (some ad) := e
  exact ⟨_,by simp [execOp,e],rfl⟩
theorem Rel.newRow {ρ : List (List Nat)} {σ : List Value} {a : Act} {w w' : World} (h : Rel X c ρ σ a w) {v : Value} {e : TypeId} {sz n : Nat} {xs : List Value} (hw : Below w.heap.size w w') (ho : w'.ownsRow w.heap.size e sz v n xs) :
    ∃ ρ',Rel X { c with loc := c.loc ++ [.row e sz n xs] } ρ' (σ ++ [v]) a w' := by
  have ho' : w'.ownsRow 0 e sz v n xs := ⟨ho.1,by
    rcases ho.2 with h | ⟨g,cap,cur,h1,h2,h3⟩
    · exact .inl h
    · exact .inr ⟨g,cap,cur,h1,Nat.zero_le _,h3⟩⟩
  cases hb : v.ownBlock with
  | none => exact ⟨ρ ++ [[]],h.push (fp := []) hw (by simp) (by simp) ⟨ho',by simp [hb]⟩ (ownsRow_one ho')⟩
  | some k => exact ⟨ρ ++ [[k]],h.push (fp := [k]) hw (by simpa using ho.lt k hb) (by simp) ⟨ho',by simp [hb]⟩ (ownsRow_one ho')⟩
theorem VO.makeSlice {t e : TypeId} {x y : Operand} {kl kc : IntKind} {n : Int} {i : TypeInfo} {z : Value} (hx : c.ev x = vv (.int kl 0)) (hy : c.ev y = vv (.int kc n)) (ht : X.P.underlying t = some (.slice e)) (hi : X.P.info? e = some i) (hz : i.zero = some z)
    (h0 : 0 ≤ n) (h1 : i.size * n.toNat ≤ 16777216) (h2 : i.bytes * n.toNat ≤ 281474976710656) (h3 : n.toNat ≤ maxLen)
    (h : nxt X d N { c with loc := c.loc ++ [.row e i.size 0 []] } (.one (.c (.row c.loc.length)))) : VO X ⟨d,.makeSlice t x y,ty,pos,af,g⟩ c N :=
  .of_value fun ρ σ a w hr => by
    have e1 := hr.ev x
    rw [hx] at e1
    have e1 : a.eval x = .int kl 0 := e1
    have e2 := hr.ev y
    rw [hy] at e2
    have e2 : a.eval y = .int kc n := e2
    obtain ⟨w',hrun,ho,hg⟩ := run_makeSlice_owned (P := X.P) w w.heap.size t e i z i.size ht hi hz rfl kl kc n.toNat (by rw [Nat.mul_comm];exact h1) h2 h3 (Nat.le_refl _)
    have hB : Below w.heap.size w w' := ⟨hg.os,hg.tape,hg.output,hg.size,fun k hk => hg.block k hk (by simp)⟩
    obtain ⟨ρ',hR⟩ := hr.newRow hB ho
    refine ⟨.slice (some ⟨w.heap.size,0,none⟩) 0 n.toNat,w',_,_,_,.one (.c (.row c.loc.length)),?_,hR,?_,h.1,h.2⟩
    · rw [show ((n.toNat : Nat) : Int) = n by omega] at hrun
      simp only [execOp,e1,e2,Sem.run_bind,hrun,Result.andThen,Sem.run_pure]
    · show (σ ++ [_])[c.loc.length]? = _
      rw [← hr.lenS];simp
theorem Rel.nilRow {ρ : List (List Nat)} {σ : List Value} {a : Act} {w : World} (h : Rel X c ρ σ a w) (e : TypeId) (sz : Nat) :
    Rel X { c with loc := c.loc ++ [.row e sz 0 []] } (ρ ++ [[]]) (σ ++ [.slice none 0 0]) a w :=
  h.push (fp := []) (Below.refl _ _) (by simp) (by simp) ⟨World.ownsRow_nil w 0 e sz,by simp [Value.ownBlock]⟩ rfl
theorem VO.appendStr {x y : Operand} {t u i n : Nat} {e : TypeId} {b : ByteArray} {xs : List Value} {ti : TypeInfo} (hx : c.ev x = .one (.c (.row i))) (hy : c.ev y = vv (.string b))
    (ht : X.P.underlying t = some (.slice e)) (hu : X.P.underlying u = some .string) (hti : X.P.info? e = some ti) (hz : ti.zero = some (.int .u8 0)) (hsz : ti.size = 1) (hby : ti.bytes = 1) (hi : c.loc[i]? = some (.row e 1 n xs))
    (h63 : n + b.size ≤ maxLen) (hb : n + b.size ≤ 140737488355328)
    (h : nxt X d N { c with loc := c.loc.set i .gone ++ [.row e 1 (n + b.size) (xs ++ bcells b.data.toList)] } (.one (.c (.row c.loc.length)))) :
    VO X ⟨d,.call { callee := .builtin .append,args := #[x,y],argTypes := #[t,u] },ty,pos,af,g⟩ c N :=
  .of_value fun ρ σ a w hr => by
    have ex := hr.ev x
    rw [hx] at ex
    have ex : σ[i]? = some (a.eval x) := ex
    have ey := hr.ev y
    rw [hy] at ey
    have ey : a.eval y = .string b := ey
    obtain ⟨fp,hfp⟩ := hr.locAt hi
    have hd := hr.loc i _ fp _ hi hfp ex
    have key : ∃ v' w',(Builtin.append_ #[t,u] ty #[a.eval x,.string b]).run X.P w = .ok v' w' ∧ w'.ownsRow 0 e 1 v' (n + b.size) (xs ++ bcells b.data.toList) ∧ w.grownBy w' (a.eval x).ownBlock ∧
        (∀ k,v'.ownBlock = some k → (a.eval x).ownBlock = some k ∨ w.heap.size ≤ k) := by
      obtain ⟨v',w',hr2,h2,h3,h4⟩ := Go.Lib.run_append_own_string (P := X.P) w 0 t u ty e ti ht hu hti hz hsz hby (a.eval x) n xs hd.1 b h63 hb (Nat.zero_le _)
      refine ⟨v',w',hr2,h2,h3,?_⟩
      have hsmall : n + b.size ≤ 9223372036854775807 := by simp only [maxLen] at h63;omega
      have hlen := hd.1.1
      rcases hd.1.2 with ⟨e0,rfl⟩ | ⟨gg,cap,cur,e0,hbg,hg,hnc,hcm,hcs,htake⟩
      · rw [e0] at hr2 h4 ⊢
        by_cases hm : b.size = 0
        · intro k hk
          have := h4.2 ⟨rfl,hm⟩
          subst this
          simp [Value.ownBlock] at hk
        · have hr3 := run_append_nil_string (P := X.P) w t u ty e ti (.int .u8 0) ht hu hti hz b (by omega) (by omega) (by rw [hby];omega)
          rw [hr2] at hr3
          injection hr3 with e1 e2
          subst e1
          intro k hk
          simp [Value.ownBlock] at hk
          exact .inr (by omega)
      · rw [e0] at hr2 ⊢
        by_cases hroom : n + b.size ≤ cap
        · have hr3 := Go.Lib.run_append_room_string (P := X.P) w t u ty e ti ht hu hti hsz gg n cap cur hg b hroom (by rw [hcs];omega)
          rw [hr2] at hr3
          injection hr3 with e1 e2
          subst e1
          intro k hk
          exact .inl hk
        · have holds : ∀ j u,xs[j]? = some u → w.cell? ((⟨gg,0,none⟩ : Addr).add j) = some u := hd.1.cells (g := gg) (by rw [e0];rfl)
          have hr3 := Go.Lib.run_append_grow_string (P := X.P) w t u ty e ti (.int .u8 0) ht hu hti hz ⟨gg,0,none⟩ n cap xs (by rw [hsz];exact hlen) holds b (by omega) (by omega) (by rw [hby];exact growslice_fits (by omega) (by omega))
          rw [hr2] at hr3
          injection hr3 with e1 e2
          subst e1
          intro k hk
          simp [Value.ownBlock] at hk
          exact .inr (by omega)
    obtain ⟨v',w',hrun,hown,hgr,hk⟩ := key
    obtain ⟨ρ',hR⟩ := hr.reRow hi ex hgr hown hk
    refine ⟨v',w',_,ρ',_,.one (.c (.row c.loc.length)),?_,hR,?_,h.1,h.2⟩
    · simp only [execOp,resolve,invoke,builtin,Sem.run_bind,Sem.run_pure,Result.andThen_ok,List.map_toArray,List.map_cons,List.map_nil,ey]
      rw [hrun];rfl
    · show (σ ++ [v'])[c.loc.length]? = some v'
      rw [← hr.lenS];simp
theorem PO.rowString {src dst e e' : TypeId} {x : Operand} {i n : Nat} {l : List UInt8} (hx : c.ev x = .one (.c (.row i))) (hi : c.loc[i]? = some (.row e' 1 n (bcells l))) (hs : X.P.underlying src = some (.slice e)) (he : X.P.underlying e = some (.int .u8)) (hd : X.P.underlying dst = some .string) :
    PO X ⟨d,.convert src dst x,ty,pos,af,g⟩ c (vv (.string (B l))) := fun ρ σ a w hr => by
  have ex := hr.ev x
  rw [hx] at ex
  have ex : σ[i]? = some (a.eval x) := ex
  obtain ⟨fp,hfp⟩ := hr.locAt hi
  have hd0 := (hr.loc i _ fp _ hi hfp ex).1
  have hn : n = l.length := by have := hd0.1;simp [bcells_length] at this;omega
  refine ⟨_,?_,rfl⟩
  rcases hd0.2 with ⟨e1,e2⟩ | ⟨gg,cap,cur,e1,_,hg,hnc,_,hcs,htake⟩
  · have : l = [] := List.eq_nil_of_length_eq_zero (by omega)
    subst this
    simp only [execOp,e1,Sem.run_bind]
    rw [run_convert_bytes_nil w src e hs he 0 0 dst hd]
    rfl
  · simp only [execOp,e1,Sem.run_bind,hn]
    rw [run_convert_bytes_back w src dst e ⟨gg,0,none⟩ cap l hs he hd (fun j hj => by
      have := hd0.cells (g := gg) (by rw [e1];rfl) (j := j) (u := .int .u8 (l[j].toNat : Int)) (by simp [bcells,hj])
      exact this)]
    rfl
theorem PO.lenRow {t e e' : TypeId} {x : Operand} {i sz n : Nat} {xs : List Value} (hx : c.ev x = .one (.c (.row i))) (hi : c.loc[i]? = some (.row e sz n xs)) (ht : X.P.underlying t = some (.slice e')) :
    PO X ⟨d,.call { callee := .builtin .len,args := #[x],argTypes := #[t] },ty,pos,af,g⟩ c (vv (.int .i64 n)) := fun ρ σ a w hr => by
  have ex := hr.ev x
  rw [hx] at ex
  have ex : σ[i]? = some (a.eval x) := ex
  obtain ⟨fp,hfp⟩ := hr.locAt hi
  have hd0 := (hr.loc i _ fp _ hi hfp ex).1
  refine ⟨.int .i64 n,?_,rfl⟩
  rcases hd0.2 with ⟨e1,e2⟩ | ⟨gg,cap,cur,e1,_⟩
  · simp [execOp,e1,e2,resolve,invoke,builtin,Builtin.len_,run_underlying ht,goInt]
  · simp [execOp,e1,resolve,invoke,builtin,Builtin.len_,run_underlying ht,goInt]
end
end Go.Sx
namespace Go.Sx
open Go Go.RowKit Go.MapKept
section
variable {X : Ctx} {c : Cfg} {N : Cfg → Prop} {d : Option Tmp} {ty : TypeId} {pos : String} {af : Array Edge} {g : Option (Nat × Bool)}
theorem VO.makeMap {t : TypeId} (h : nxt X d N { c with loc := c.loc ++ [.map []] } (.one (.c (.row c.loc.length)))) : VO X ⟨d,.makeMap t none,ty,pos,af,g⟩ c N :=
  .of_value fun ρ σ a w hr => by
    have hR : Rel X { c with loc := c.loc ++ [.map []] } (ρ ++ [[w.heap.size]]) (σ ++ [.map (some w.heap.size)]) a (w.alloc (.map #[] 0)) :=
      hr.push ((Below.refl _ _).alloc (Nat.le_refl _) _) (fun b hb => by simp at hb;subst hb;simp) (by simp) ⟨w.heap.size,#[],0,[],rfl,by simp,heap_alloc_new w _,⟨by simp,by simp⟩,trivial⟩ rfl
    refine ⟨.map (some w.heap.size),_,_,_,_,.one (.c (.row c.loc.length)),by simp [execOp,run_makeMap],hR,?_,h.1,h.2⟩
    show (σ ++ [_])[c.loc.length]? = _
    rw [← hr.lenS];simp
theorem Rel.getMap {ρ : List (List Nat)} {σ : List Value} {a : Act} {w : World} (h : Rel X c ρ σ a w) {i : Nat} {es : List (Value × S1)} {v : Value} (hi : c.loc[i]? = some (.map es)) (hv : σ[i]? = some v) :
    ∃ b ms clock ms' fp,ρ[i]? = some fp ∧ b ∈ fp ∧ v = .map (some b) ∧ w.heap[b]? = some (.map ms clock) ∧ (List.Perm ms' ms.toList ∧ (ms'.map (·.key)).Nodup) ∧ All2 (fun (p : Value × S1) (m : MapEntry) => m.key = p.1 ∧ D1 σ p.2 m.val) es ms' := by
  obtain ⟨fp,hfp⟩ := h.locAt hi
  obtain ⟨b,ms,clock,ms',e,hm,hw,hp,ha⟩ := h.loc i _ _ v hi hfp hv
  exact ⟨b,ms,clock,ms',fp,hfp,hm,e,hw,hp,ha⟩
theorem Rel.setObj {ρ : List (List Nat)} {σ : List Value} {a : Act} {w : World} (h : Rel X c ρ σ a w) {i b : Nat} {fp : List Nat} {v : Value} {o : LO} (ob : Obj) (hi : i < c.loc.length) (hb : ρ[i]? = some fp) (hm : b ∈ fp) (hv : σ[i]? = some v)
    (hd : DL σ { w with heap := w.heap.setIfInBounds b ob } fp v o) : Rel X { c with loc := c.loc.set i o } ρ σ a { w with heap := w.heap.setIfInBounds b ob } := by
  have hold : ∀ k,k ≠ b → (w.heap.setIfInBounds b ob)[k]? = w.heap[k]? := fun k hk => by rw [Array.getElem?_setIfInBounds_ne (by omega)]
  refine ⟨h.env,by simp [h.len],by simp [h.lenS],fun j o' fq u ho hb' hu => ?_,h.inj,fun b' hb' => by simpa using h.lt b' hb',h.fresh,?_,h.defers,h.size,h.one,h.pin⟩
  · by_cases e : j = i
    · subst e
      rw [hb] at hb';cases hb'
      rw [hv] at hu;cases hu
      rw [List.getElem?_set_self hi] at ho
      cases ho
      exact hd
    · rw [List.getElem?_set_ne (by omega)] at ho
      exact DL.kept (Up.refl _) (by simp) (fun k hk => hold k (fun eb => e (flat_inj h.inj hb' hb hk (by rw [eb];exact hm)))) (h.loc j o' fq u ho hb' hu)
  · refine ⟨h.low.os,h.low.tape,h.low.output,by simpa using h.low.size,fun k hk hx => ?_⟩
    have hne : k ≠ b := by
      rintro rfl
      rcases h.fresh k (mem_flat hb hm) with hf | hf
      · omega
      · exact hx hf
    show (w.heap.setIfInBounds b ob)[k]? = _
    rw [hold k hne]
    exact h.low.block k hk hx
def KeyOf (d : TypeDesc) (v : Value) : Bool := match d,v with
  | .int k,.int k' _ => k == k'
  | .string,.string _ => true
  | _,_ => false
theorem isKey_of {d : TypeDesc} {v : Value} (h : KeyOf d v = true) : IsKey d v := by
  unfold KeyOf at h
  split at h
  · rename_i k k' n;simp at h;subst h;simp [IsKey]
  · simp [IsKey]
  · simp at h
theorem sameNow_beq {d : TypeDesc} {a b : Value} (ha : KeyOf d a = true) (hb : KeyOf d b = true) {r : Bool} (h : r = true ↔ a = b) : Instr.sameNow d a b = some r := by
  obtain ⟨r',h1,h2⟩ := sameNow_of_keys (isKey_of ha) (isKey_of hb)
  rw [h1]
  congr 1
  cases r <;> cases r' <;> simp_all
inductive Look (k : Value) : List (Value × S1) → Option S1 → Prop
  | nil : Look k [] none
  | hit {p es} : k = p.1 → Look k (p :: es) (some p.2)
  | miss {p es r} : k ≠ p.1 → Look k es r → Look k (p :: es) r
theorem All2.memR {α β : Type} {R : α → β → Prop} : ∀ {l : List α} {m : List β},All2 R l m → ∀ b ∈ m,∃ a ∈ l,R a b
  | [],[],_,b,hb => by cases hb
  | x :: l,y :: m,h,b,hb => by
    rcases List.mem_cons.1 hb with rfl | hb
    · exact ⟨x,List.mem_cons_self,h.1⟩
    · obtain ⟨a,h1,h2⟩ := All2.memR h.2 b hb
      exact ⟨a,List.mem_cons_of_mem _ h1,h2⟩
  | [],_ :: _,h,_,_ => h.elim
  | _ :: _,[],h,_,_ => h.elim
theorem All2.memL {α β : Type} {R : α → β → Prop} : ∀ {l : List α} {m : List β},All2 R l m → ∀ a ∈ l,∃ b ∈ m,R a b
  | [],[],_,b,hb => by cases hb
  | x :: l,y :: m,h,b,hb => by
    rcases List.mem_cons.1 hb with rfl | hb
    · exact ⟨y,List.mem_cons_self,h.1⟩
    · obtain ⟨a,h1,h2⟩ := All2.memL h.2 b hb
      exact ⟨a,List.mem_cons_of_mem _ h1,h2⟩
  | [],_ :: _,h,_,_ => h.elim
  | _ :: _,[],h,_,_ => h.elim
theorem findNow_mem {d : TypeDesc} {k : Value} (hk : KeyOf d k = true) : ∀ {ms : List MapEntry} (i : Nat),(∀ m ∈ ms,KeyOf d m.key = true) →
    ((∀ m ∈ ms,m.key ≠ k) ∧ Instr.findNow d k ms i = some none) ∨ (∃ j e,ms[j]? = some e ∧ e.key = k ∧ Instr.findNow d k ms i = some (some (i + j,e.val)))
  | [],i,_ => .inl ⟨by simp,rfl⟩
  | m :: ms,i,hks => by
    have hm := hks m List.mem_cons_self
    by_cases e : k = m.key
    · have : Instr.sameNow d k m.key = some true := sameNow_beq hk hm (by simp [e])
      exact .inr ⟨0,m,rfl,e.symm,by simp [Instr.findNow,this]⟩
    · have : Instr.sameNow d k m.key = some false := sameNow_beq hk hm (by simp [e])
      rcases findNow_mem hk (i + 1) (fun x hx => hks x (List.mem_cons_of_mem _ hx)) with ⟨h1,h2⟩ | ⟨j,x,h1,h2,h3⟩
      · refine .inl ⟨fun x hx => ?_,by simp [Instr.findNow,this,h2]⟩
        rcases List.mem_cons.1 hx with rfl | hx
        · exact fun h => e h.symm
        · exact h1 x hx
      · exact .inr ⟨j + 1,x,by simpa using h1,h2,by simp [Instr.findNow,this,h3];omega⟩
theorem nodup_key {ms : List MapEntry} (h : (ms.map (·.key)).Nodup) {a b : MapEntry} (ha : a ∈ ms) (hb : b ∈ ms) (e : a.key = b.key) : a = b := by
  induction ms with
  | nil => cases ha
  | cons m ms ih =>
    rw [List.map_cons,List.nodup_cons] at h
    obtain ⟨h1,h2⟩ := h
    rcases List.mem_cons.1 ha with ha | ha
    · rcases List.mem_cons.1 hb with hb | hb
      · rw [ha,hb]
      · exact absurd (List.mem_map.2 ⟨b,hb,by rw [← ha];exact e.symm⟩) h1
    · rcases List.mem_cons.1 hb with hb | hb
      · exact absurd (List.mem_map.2 ⟨a,ha,by rw [← hb];exact e⟩) h1
      · exact ih h2 ha hb
theorem look_some {k : Value} {s : S1} : ∀ {es : List (Value × S1)},Look k es (some s) → ∃ p ∈ es,p.1 = k ∧ p.2 = s
  | [],h => by cases h
  | q :: es,h => by
    cases h with
    | hit e => exact ⟨q,List.mem_cons_self,e.symm,rfl⟩
    | miss e h => obtain ⟨p,h1,h2⟩ := look_some h;exact ⟨p,List.mem_cons_of_mem _ h1,h2⟩
theorem look_none {k : Value} : ∀ {es : List (Value × S1)},Look k es none → ∀ p ∈ es,k ≠ p.1
  | [],_,p,hp => by simp at hp
  | q :: es,h,p,hp => by
    cases h with
    | miss e h =>
      rcases List.mem_cons.1 hp with rfl | hp
      · exact e
      · exact look_none h p hp
theorem findNow_perm {σ : List Value} {d : TypeDesc} {k : Value} (hk : KeyOf d k = true) {es : List (Value × S1)} {ms ms' : List MapEntry} {r : Option S1} (hp : List.Perm ms' ms ∧ (ms'.map (·.key)).Nodup)
    (ha : All2 (fun (p : Value × S1) (m : MapEntry) => m.key = p.1 ∧ D1 σ p.2 m.val) es ms') (hks : (es.all fun p => KeyOf d p.1) = true) (h : Look k es r) :
    (r = none ∧ Instr.findNow d k ms 0 = some none) ∨ (∃ s j v,r = some s ∧ Instr.findNow d k ms 0 = some (some (j,v)) ∧ D1 σ s v) := by
  have hkm : ∀ m ∈ ms,KeyOf d m.key = true := fun m hm => by
    obtain ⟨p,h1,h2,_⟩ := ha.memR m (hp.1.mem_iff.2 hm)
    rw [h2]
    exact List.all_eq_true.1 hks p h1
  rcases findNow_mem hk 0 hkm with ⟨h1,h2⟩ | ⟨j,e,h1,h2,h3⟩
  · cases r with
    | none => exact .inl ⟨rfl,h2⟩
    | some s =>
      obtain ⟨p,h4,h5,_⟩ := look_some h
      obtain ⟨m,h6,h7,_⟩ := ha.memL p h4
      exact absurd (h7.trans h5) (h1 m (hp.1.mem_iff.1 h6))
  · have he : e ∈ ms' := hp.1.mem_iff.2 (List.mem_of_getElem? h1)
    cases r with
    | none =>
      obtain ⟨p,h4,h5,_⟩ := ha.memR e he
      exact absurd (h2.symm.trans h5) (look_none h p h4)
    | some s =>
      obtain ⟨p,h4,h5,h6⟩ := look_some h
      obtain ⟨m,h7,h8,h9⟩ := ha.memL p h4
      have := nodup_key hp.2 he h7 (by rw [h2,h8,h5])
      subst this
      exact .inr ⟨s,_,_,rfl,h3,h6 ▸ h9⟩
theorem VO.insert {t kt et i : Nat} {m k x : Operand} {kv : Value} {s : S1} {es : List (Value × S1)} {kd : TypeDesc} (hm : c.ev m = .one (.c (.row i))) (hi : c.loc[i]? = some (.map es)) (hk : c.ev k = vv kv) (hx : c.ev x = .one s)
    (ht : X.P.underlying t = some (.map kt et)) (hkt : X.P.underlying kt = some kd) (hkv : KeyOf kd kv = true) (hks : (es.all fun p => KeyOf kd p.1) = true) (hl : Look kv es none)
    (h : N { c with loc := c.loc.set i (.map (es ++ [(kv,s)])) }) : VO X ⟨none,.insert t m k x,ty,pos,af,g⟩ c N :=
  .of_skip rfl fun ρ σ a w hr => by
    have e1 := hr.ev m
    rw [hm] at e1
    have e1 : σ[i]? = some (a.eval m) := e1
    have e2 := hr.ev k
    rw [hk] at e2
    have e2 : a.eval k = kv := e2
    have e3 := hr.ev x
    rw [hx] at e3
    obtain ⟨b,ms,clock,ms',fp,hb,hm0,e0,hw,hpm,ha⟩ := hr.getMap hi e1
    rcases findNow_perm hkv hpm ha hks hl with ⟨_,hf⟩ | ⟨s,j,v,h1,_⟩
    · refine ⟨{ w with heap := w.heap.setIfInBounds b (.map (ms.push ⟨kv,a.eval x,clock⟩) (clock + 1)) },_,ρ,σ,?_,hr.setObj _ (List.getElem?_eq_some_iff.1 hi).1 hb hm0 e1 (o := .map (es ++ [(kv,s)])) ?_,h⟩
      · simp [execOp,e0,e2,Instr.mapUpdate,run_underlying ht,MapKept.run_getObj_map hw,run_checkKey hkt (isKey_of hkv),run_findKey hkt hf,MapKept.run_setObj_map _ hw,Result.andThen]
      · refine ⟨b,_,_,ms' ++ [⟨kv,a.eval x,clock⟩],e0,hm0,Array.getElem?_setIfInBounds_self_of_lt (Array.getElem?_eq_some_iff.1 hw).1,⟨?_,?_⟩,?_⟩
        · rw [Array.toList_push];exact hpm.1.append_right _
        · rw [List.map_append,List.nodup_append]
          refine ⟨hpm.2,by simp,fun x hx y hy => ?_⟩
          obtain ⟨m,hm,rfl⟩ := List.mem_map.1 hx
          simp at hy
          subst hy
          obtain ⟨p,h1,h2,_⟩ := ha.memR m hm
          rw [h2]
          exact fun e => look_none hl p h1 e.symm
        · exact All2.append ha ⟨⟨rfl,e3⟩,trivial⟩
    · cases h1
theorem PO.lookup2 {t kt et i : Nat} {m k : Operand} {kv zv : Value} {s z : S1} {es : List (Value × S1)} {kd : TypeDesc} {r : Option S1} {ti : TypeInfo} (hm : c.ev m = .one (.c (.row i))) (hi : c.loc[i]? = some (.map es)) (hk : c.ev k = vv kv)
    (ht : X.P.underlying t = some (.map kt et)) (hkt : X.P.underlying kt = some kd) (hkv : KeyOf kd kv = true) (hks : (es.all fun p => KeyOf kd p.1) = true) (hl : Look kv es r)
    (hti : X.P.info? et = some ti) (hz : ti.zero = some zv) (hzs : ∀ σ,D1 σ z zv) (hs : s = r.getD z) :
    PO X ⟨d,.lookup t m k true,ty,pos,af,g⟩ c (.tup [s,.c (.v (.bool r.isSome))]) := fun ρ σ a w hr => by
  have e1 := hr.ev m
  rw [hm] at e1
  have e1 : σ[i]? = some (a.eval m) := e1
  have e2 := hr.ev k
  rw [hk] at e2
  have e2 : a.eval k = kv := e2
  obtain ⟨b,ms,clock,ms',fp,hb,hm0,e0,hw,hpm,ha⟩ := hr.getMap hi e1
  rcases findNow_perm hkv hpm ha hks hl with ⟨rfl,hf⟩ | ⟨s',j,v,rfl,hf,hd⟩
  · refine ⟨.tuple #[zv,.bool false],?_,⟨[zv,.bool false],rfl,?_,rfl,trivial⟩⟩
    · simp [execOp,e0,e2,Instr.lookup,run_underlying ht,MapKept.run_getObj_map hw,run_checkKey hkt (isKey_of hkv),run_findKey hkt hf,Result.andThen,zeroValue,typeInfo,hti,hz]
    · rw [hs];exact hzs σ
  · refine ⟨.tuple #[v,.bool true],?_,⟨[v,.bool true],rfl,?_,rfl,trivial⟩⟩
    · simp [execOp,e0,e2,Instr.lookup,run_underlying ht,MapKept.run_getObj_map hw,run_checkKey hkt (isKey_of hkv),run_findKey hkt hf,Result.andThen]
    · rw [hs];exact hd
theorem PO.lookup1 {t kt et i : Nat} {m k : Operand} {kv zv : Value} {s z : S1} {es : List (Value × S1)} {kd : TypeDesc} {r : Option S1} {ti : TypeInfo} (hm : c.ev m = .one (.c (.row i))) (hi : c.loc[i]? = some (.map es)) (hk : c.ev k = vv kv)
    (ht : X.P.underlying t = some (.map kt et)) (hkt : X.P.underlying kt = some kd) (hkv : KeyOf kd kv = true) (hks : (es.all fun p => KeyOf kd p.1) = true) (hl : Look kv es r)
    (hti : X.P.info? et = some ti) (hz : ti.zero = some zv) (hzs : ∀ σ,D1 σ z zv) (hs : s = r.getD z) :
    PO X ⟨d,.lookup t m k false,ty,pos,af,g⟩ c (.one s) := fun ρ σ a w hr => by
  have e1 := hr.ev m
  rw [hm] at e1
  have e1 : σ[i]? = some (a.eval m) := e1
  have e2 := hr.ev k
  rw [hk] at e2
  have e2 : a.eval k = kv := e2
  obtain ⟨b,ms,clock,ms',fp,hb,hm0,e0,hw,hpm,ha⟩ := hr.getMap hi e1
  rcases findNow_perm hkv hpm ha hks hl with ⟨rfl,hf⟩ | ⟨s',j,v,rfl,hf,hd⟩
  · refine ⟨zv,?_,?_⟩
    · simp [execOp,e0,e2,Instr.lookup,run_underlying ht,MapKept.run_getObj_map hw,run_checkKey hkt (isKey_of hkv),run_findKey hkt hf,Result.andThen,zeroValue,typeInfo,hti,hz]
    · rw [hs];exact hzs σ
  · refine ⟨v,?_,?_⟩
    · simp [execOp,e0,e2,Instr.lookup,run_underlying ht,MapKept.run_getObj_map hw,run_checkKey hkt (isKey_of hkv),run_findKey hkt hf,Result.andThen]
    · rw [hs];exact hd
theorem Rel.old {ρ : List (List Nat)} {σ : List Value} {a : Act} {w : World} (h : Rel X c ρ σ a w) {ad : Addr} {v : Value} (hv : X.wi.cell? ad = some v) (ho : ad.block ∉ X.own) : w.cell? ad = some v := by
  have hlt := World.block_lt_of_cell? X.wi ad hv
  rw [World.cell?_of_block (h.low.block ad.block hlt ho)]
  exact hv
def fldInf (P : Program) (t : TypeId) (f : Nat) : Option (Nat × Bool × Nat) := match P.underlying t with
  | some (.struct fs) => match fs[f]? with
    | some x => match aggOf P x.type,szOf P x.type with
      | some b,some n => some (x.offset,b,n)
      | _,_ => none
    | none => none
  | _ => none
def fldS (s : SV) (i : Option (Nat × Bool × Nat)) : Option SV := match s,i with
  | .one (.agg l),some (o,false,_) => (l[o]?).map fun s => .one (.c s)
  | .one (.agg l),some (o,true,n) => some (.one (.agg ((l.drop o).take n)))
  | _,_ => none
theorem PO.field {t : TypeId} {x : Operand} {f : Nat} {s : SV} (h : fldS (c.ev x) (fldInf X.P t f) = some s) : PO X ⟨d,.field t x f,ty,pos,af,g⟩ c s := fun ρ σ a w hr => by
  have hv := hr.ev x
  unfold fldInf at h
  cases hu : X.P.underlying t with
  | none => rw [hu] at h;simp [fldS] at h
  | some u =>
    rw [hu] at h
    cases u with
    | struct fs =>
      simp only at h
      cases hf : fs[f]? with
      | none => rw [hf] at h;simp [fldS] at h
      | some fd =>
        rw [hf] at h
        simp only at h
        cases ha : aggOf X.P fd.type with
        | none => rw [ha] at h;simp [fldS] at h
        | some b =>
          cases hz : szOf X.P fd.type with
          | none => rw [ha,hz] at h;simp [fldS] at h
          | some n =>
            rw [ha,hz] at h
            simp only at h
            generalize c.ev x = sv at h hv
            unfold fldS at h
            split at h
            · rename_i l o m hi
              cases hi
              obtain ⟨cs,e,hl⟩ := hv
              cases hg : l[fd.offset]? with
              | none => rw [hg] at h;simp at h
              | some s1 =>
                rw [hg] at h;simp at h;subst h
                obtain ⟨v,hv,hd⟩ := hl.get hg
                exact ⟨v,by simp [execOp,e,Instr.field,run_underlying hu,hf,asAgg,part,isAgg_run ha,hv],hd⟩
            · rename_i l o m hi
              cases hi
              simp at h;subst h
              obtain ⟨cs,e,hl⟩ := hv
              refine ⟨.agg ((cs.drop fd.offset).take n).toArray,?_,⟨_,rfl,(hl.drop _).take _⟩⟩
              simp [execOp,e,Instr.field,run_underlying hu,hf,asAgg,part,isAgg_run ha,sizeOf_run hz]
            · simp at h
    | _ => simp [fldS] at h
theorem PO.loadV {t : TypeId} {x : Operand} {ad : Addr} {v : Value} (hx : c.ev x = vv (.pointer (some ad))) (ht : aggOf X.P t = some false) (hv : X.wi.cell? ad = some v) (ho : ad.block ∉ X.own) :
    PO X ⟨d,.load t x,ty,pos,af,g⟩ c (vv v) := fun ρ σ a w hr => by
  have e := hr.ev x
  rw [hx] at e
  have e : a.eval x = .pointer (some ad) := e
  exact ⟨v,by simp [execOp,e,Instr.loadAt,Instr.sureAddr,loadVar,isAgg_run ht,hr.old hv ho],rfl⟩
theorem PO.loadVN {t : TypeId} {x : Operand} {ad : Addr} {vs : List Value} (hx : c.ev x = vv (.pointer (some ad))) (ht : aggOf X.P t = some true) (hz : szOf X.P t = some vs.length) (hv : ∀ j v,vs[j]? = some v → X.wi.cell? (ad.add j) = some v) (ho : ad.block ∉ X.own) :
    PO X ⟨d,.load t x,ty,pos,af,g⟩ c (.one (.agg (vs.map .v))) := fun ρ σ a w hr => by
  have e := hr.ev x
  rw [hx] at e
  have e : a.eval x = .pointer (some ad) := e
  have hb : ∀ j,(ad.add j).block = ad.block := fun j => by unfold Addr.add;split <;> rfl
  have hrun := run_loadCells_list (P := X.P) w ad vs (fun j v hj => hr.old (hv j v hj) (by rw [hb];exact ho))
  exact ⟨.agg vs.toArray,by simp [execOp,e,Instr.loadAt,Instr.sureAddr,loadVar,isAgg_run ht,sizeOf_run hz,hrun],⟨vs,rfl,all2_vals vs⟩⟩
theorem PO.indexV {t e : TypeId} {x i : Operand} {ad : Addr} {n m sz : Nat} {k : IntKind} {j : Int} (hx : c.ev x = vv (.slice (some ad) n m)) (hi : c.ev i = vv (.int k j)) (ht : elemSz X.P t = some (e,sz)) (h0 : 0 ≤ j) (h1 : j < n) :
    PO X ⟨d,.indexAddr t x i,ty,pos,af,g⟩ c (vv (.pointer (some (ad.add (j.toNat * sz))))) := fun ρ σ a w hr => by
  have e1 := hr.ev x
  rw [hx] at e1
  have e1 : a.eval x = .slice (some ad) n m := e1
  have e2 := hr.ev i
  rw [hi] at e2
  have e2 : a.eval i = .int k j := e2
  unfold elemSz at ht
  split at ht
  · rename_i e' hu
    cases hz : szOf X.P e' with
    | none => simp [hz] at ht
    | some q =>
      simp [hz] at ht
      obtain ⟨rfl,rfl⟩ := ht
      exact ⟨_,by simp [execOp,e1,e2,Instr.indexAt,asIntOf,run_underlying hu,sizeOf_run hz,h0,h1,Result.andThen],rfl⟩
  · simp at ht
theorem PO.indexArr {t : TypeId} {x i : Operand} {q off n sz : Nat} {k : IntKind} {j : Int} (hx : c.ev x = .one (.c (.loc q off))) (hi : c.ev i = vv (.int k j)) (ht : arrInf X.P t = some (n,sz)) (h0 : 0 ≤ j) (h1 : j < n) :
    PO X ⟨d,.indexAddr t x i,ty,pos,af,g⟩ c (.one (.c (.loc q (off + j.toNat * sz)))) := fun ρ σ a w hr => by
  have e1 := hr.ev x
  rw [hx] at e1
  obtain ⟨b,hb,e1⟩ := e1
  have e2 := hr.ev i
  rw [hi] at e2
  have e2 : a.eval i = .int k j := e2
  unfold arrInf at ht
  split at ht
  · rename_i n' e' hu
    cases hz : szOf X.P e' with
    | none => simp [hz] at ht
    | some r =>
      simp [hz] at ht
      obtain ⟨rfl,rfl⟩ := ht
      exact ⟨.pointer (some ((⟨b,off,none⟩ : Addr).add (j.toNat * r))),by simp [execOp,e1,e2,Instr.indexAt,Instr.sureAddr,asIntOf,run_underlying hu,sizeOf_run hz,h0,h1,Result.andThen],⟨b,hb,by rw [add_add]⟩⟩
  · simp at ht
theorem PO.indexSl {t e : TypeId} {x i : Operand} {q off n m sz : Nat} {k : IntKind} {j : Int} (hx : c.ev x = .one (.c (.sl q off n m))) (hi : c.ev i = vv (.int k j)) (ht : elemSz X.P t = some (e,sz)) (h0 : 0 ≤ j) (h1 : j < n) :
    PO X ⟨d,.indexAddr t x i,ty,pos,af,g⟩ c (.one (.c (.loc q (off + j.toNat * sz)))) := fun ρ σ a w hr => by
  have e1 := hr.ev x
  rw [hx] at e1
  obtain ⟨b,hb,e1⟩ := e1
  have e2 := hr.ev i
  rw [hi] at e2
  have e2 : a.eval i = .int k j := e2
  unfold elemSz at ht
  split at ht
  · rename_i e' hu
    cases hz : szOf X.P e' with
    | none => simp [hz] at ht
    | some r =>
      simp [hz] at ht
      obtain ⟨rfl,rfl⟩ := ht
      exact ⟨.pointer (some ((⟨b,off,none⟩ : Addr).add (j.toNat * r))),by simp [execOp,e1,e2,Instr.indexAt,asIntOf,run_underlying hu,sizeOf_run hz,h0,h1,Result.andThen],⟨b,hb,by rw [add_add]⟩⟩
  · simp at ht
theorem PO.indexRow {t e e' : TypeId} {x i : Operand} {r n sz : Nat} {xs : List Value} {k : IntKind} {j : Int} (hx : c.ev x = .one (.c (.row r))) (hr0 : c.loc[r]? = some (.row e' sz n xs)) (hi : c.ev i = vv (.int k j)) (ht : elemSz X.P t = some (e,sz)) (h0 : 0 ≤ j) (h1 : j < n) :
    PO X ⟨d,.indexAddr t x i,ty,pos,af,g⟩ c (.one (.c (.ri r (j.toNat * sz)))) := fun ρ σ a w hr => by
  have e1 := hr.ev x
  rw [hx] at e1
  have e1 : σ[r]? = some (a.eval x) := e1
  have e2 := hr.ev i
  rw [hi] at e2
  have e2 : a.eval i = .int k j := e2
  obtain ⟨fp,hfp⟩ := hr.locAt hr0
  have hd := (hr.loc r _ fp _ hr0 hfp e1).1
  unfold elemSz at ht
  split at ht
  · rename_i e' hu
    cases hz : szOf X.P e' with
    | none => simp [hz] at ht
    | some q =>
      simp [hz] at ht
      obtain ⟨rfl,rfl⟩ := ht
      rcases hd.2 with ⟨_,h2⟩ | ⟨gg,cap,cur,e3,_⟩
      · omega
      · refine ⟨.pointer (some ((⟨gg,0,none⟩ : Addr).add (j.toNat * q))),by simp [execOp,e3,e2,Instr.indexAt,asIntOf,run_underlying hu,sizeOf_run hz,h0,h1,Result.andThen],⟨gg,0,none⟩,n,cap,?_,rfl⟩
        rw [e1,e3]
  · simp at ht
theorem Rel.rowCell {ρ : List (List Nat)} {σ : List Value} {a : Act} {w : World} (h : Rel X c ρ σ a w) {r n sz : Nat} {e : TypeId} {xs : List Value} (hr0 : c.loc[r]? = some (.row e sz n xs)) {ad : Addr} {n' m : Nat} (hs : σ[r]? = some (.slice (some ad) n' m)) :
    ∀ j u,xs[j]? = some u → w.cell? (ad.add j) = some u := by
  intro j u hu
  obtain ⟨fp,hfp⟩ := h.locAt hr0
  have hd := (h.loc r _ fp _ hr0 hfp hs).1
  rcases hd.2 with ⟨h2,_⟩ | ⟨gg,cap,cur,e3,_⟩
  · cases h2
  · cases e3
    exact hd.cells (g := gg) rfl j u hu
theorem PO.loadRi {t : TypeId} {x : Operand} {r k n sz : Nat} {e : TypeId} {xs : List Value} {v : Value} (hx : c.ev x = .one (.c (.ri r k))) (hr0 : c.loc[r]? = some (.row e sz n xs)) (ht : aggOf X.P t = some false) (hv : xs[k]? = some v) :
    PO X ⟨d,.load t x,ty,pos,af,g⟩ c (vv v) := fun ρ σ a w hr => by
  have e1 := hr.ev x
  rw [hx] at e1
  obtain ⟨ad,n',m,hs,e1⟩ := e1
  exact ⟨v,by simp [execOp,e1,Instr.loadAt,Instr.sureAddr,loadVar,isAgg_run ht,hr.rowCell hr0 hs k v hv],rfl⟩
theorem PO.loadRiN {t : TypeId} {x : Operand} {r k n sz : Nat} {e : TypeId} {xs vs : List Value} (hx : c.ev x = .one (.c (.ri r k))) (hr0 : c.loc[r]? = some (.row e sz n xs)) (ht : aggOf X.P t = some true) (hz : szOf X.P t = some vs.length)
    (hv : (xs.drop k).take vs.length = vs) : PO X ⟨d,.load t x,ty,pos,af,g⟩ c (.one (.agg (vs.map .v))) := fun ρ σ a w hr => by
  have e1 := hr.ev x
  rw [hx] at e1
  obtain ⟨ad,n',m,hs,e1⟩ := e1
  have hrun := run_loadCells_list (P := X.P) w (ad.add k) vs (fun j v hj => by
    rw [add_assoc']
    refine hr.rowCell hr0 hs (k + j) v ?_
    rw [← hv] at hj
    rw [List.getElem?_take] at hj
    split at hj
    · simpa using hj
    · simp at hj)
  exact ⟨.agg vs.toArray,by simp [execOp,e1,Instr.loadAt,Instr.sureAddr,loadVar,isAgg_run ht,sizeOf_run hz,hrun],⟨vs,rfl,all2_vals vs⟩⟩
theorem run_storeCells_row {P : Program} {w : World} {b off : Nat} {cur : Array Value} {e : TypeId} (hw : w.heap[b]? = some (.cells cur e (0,0))) (vs : List Value) (hl : off + vs.length ≤ cur.size) (h1 : ∀ u ∈ vs,u.oneCell' = true) :
    (storeCells ⟨b,off,none⟩ vs 0).run P w = .ok () (w.setRow b (cur.toList.take off ++ vs ++ cur.toList.drop (off + vs.length)).toArray) := by
  have := run_storeCells_at P b off e vs 0 cur w hw (by omega) h1
  simpa using this
theorem take_splice {xs cur vs : List Value} {n k : Nat} (h : cur.take n = xs) (hk : k + vs.length ≤ n) (hn : n ≤ cur.length) : (cur.take k ++ vs ++ cur.drop (k + vs.length)).take n = xs.take k ++ vs ++ xs.drop (k + vs.length) := by
  subst h
  rw [List.take_append,List.take_of_length_le (by simp;omega)]
  congr 1
  · rw [List.take_take,Nat.min_eq_left (by omega)]
  · simp only [List.length_append,List.length_take]
    rw [Nat.min_eq_left (by omega)]
    rw [List.drop_take]
theorem VO.storeRi {t : TypeId} {x y : Operand} {i k m sz n : Nat} {e : TypeId} {xs vs : List Value} {s : S1} (hx : c.ev x = .one (.c (.ri i k))) (hy : c.ev y = .one s) (ho : s.One)
    (hz : szOf X.P t = some m) (hv : vals? s.cells = some vs) (hn : vs.length = m) (hi : c.loc[i]? = some (.row e sz n xs)) (hl : k + m ≤ xs.length)
    (h : N { c with loc := c.loc.set i (.row e sz n (xs.take k ++ vs ++ xs.drop (k + m))) }) : VO X ⟨none,.store t x y,ty,pos,af,g⟩ c N :=
  .of_skip rfl fun ρ σ a w hr => by
    have e1 := hr.ev x
    rw [hx] at e1
    obtain ⟨ad,n',cap',hs,e1⟩ := e1
    have hv2 := hr.ev y
    rw [hy] at hv2
    obtain ⟨ha2,h1⟩ := ho.cells hr.one hv2
    have hvs := vals?_spec hv ha2
    obtain ⟨fp,hfp⟩ := hr.locAt hi
    have hd := hr.loc i _ fp _ hi hfp hs
    obtain ⟨⟨hl0,hd1⟩,hk⟩ := hd
    rcases hd1 with ⟨e0,_⟩ | ⟨gg,cap,cur,e0,hg0,hg,hnc,hcm,hcs,htake⟩
    · cases e0
    cases e0
    have hcl : n * sz ≤ cur.toList.length := by simp only [Array.length_toList];rw [hcs];exact Nat.mul_le_mul_right _ hnc
    have hxl : xs.length = n * sz := hl0
    have hcl2 : n * sz ≤ cur.size := by simpa using hcl
    have hrun := run_storeCells_row (P := X.P) hg vs (off := k) (by omega) (by rw [← hvs];exact h1)
    have hsz : (a.eval y).cells.size = m := by rw [← hn,← hvs];simp
    have hadd : (⟨gg,0,none⟩ : Addr).add k = ⟨gg,k,none⟩ := by rw [add_add];simp
    have hset := setRow_heap w gg cur (cur.toList.take k ++ vs ++ cur.toList.drop (k + vs.length)).toArray _ _ hg
    have hnewsz : (cur.toList.take k ++ vs ++ cur.toList.drop (k + vs.length)).length = cur.size := by simp;omega
    have hR : Rel X { c with loc := c.loc.set i (.row e sz n (xs.take k ++ vs ++ xs.drop (k + m))) } ρ σ a (w.setRow gg (cur.toList.take k ++ vs ++ cur.toList.drop (k + vs.length)).toArray) := by
      have heq : w.setRow gg (cur.toList.take k ++ vs ++ cur.toList.drop (k + vs.length)).toArray = { w with heap := w.heap.setIfInBounds gg (.cells (cur.toList.take k ++ vs ++ cur.toList.drop (k + vs.length)).toArray e (0,0)) } := by
        simp only [World.setRow]
        congr 1
        apply Array.ext'
        apply List.ext_getElem?
        intro j
        simp only [Array.getElem?_toList,Array.getElem?_modify]
        by_cases ej : gg = j
        · subst ej
          rw [if_pos rfl,hg,Array.getElem?_setIfInBounds_self_of_lt (Array.getElem?_eq_some_iff.1 hg).1]
          rfl
        · rw [if_neg ej,Array.getElem?_setIfInBounds_ne (by omega)]
      rw [heq] at hset ⊢
      refine hr.setObj _ (List.getElem?_eq_some_iff.1 hi).1 hfp (hk gg rfl) hs ⟨⟨?_,.inr ⟨gg,_,_,rfl,hg0,hset,hnc,hcm,?_,?_⟩⟩,hk⟩
      · simp;omega
      · simp only [List.size_toArray];rw [hnewsz,hcs]
      · rw [List.toList_toArray,take_splice htake (by omega) hcl,hn]
    refine ⟨_,_,_,_,?_,hR,h⟩
    simp only [execOp,Instr.storeAt,Instr.sureAddr,e1,storeVar,Sem.run_bind,Sem.run_pure,Result.andThen,sizeOf_run hz,hsz,hadd]
    simp only [ne_eq,not_true_eq_false,if_false]
    have hce : (a.eval y).cells = vs.toArray := by rw [← hvs]
    rw [hce]
    simp only [List.toList_toArray]
    rw [hrun]
end
def Post (X : Ctx) (K : Exit → Cfg → Prop) : Exit → Act → World → Prop := fun e a w => ∃ c ρ σ,Rel X c ρ σ a w ∧ K e c
def SX (X : Ctx) (code : Code) (c : Cfg) (K : Exit → Cfg → Prop) : Prop := ∀ ρ σ a w,Rel X c ρ σ a w → code.wp X.P (Post X K) a w
def nx (N : Cfg → Prop) (K : Exit → Cfg → Prop) : Exit → Cfg → Prop
  | .normal,c => N c
  | e,c => K e c
def bx (id : Nat) (K : Exit → Cfg → Prop) : Exit → Cfg → Prop
  | .exit id',c => if id' = id then K .normal c else K (.exit id') c
  | e,c => K e c
section rules
variable {X : Ctx} {c : Cfg} {K : Exit → Cfg → Prop}
theorem SX.mono {code : Code} {K' : Exit → Cfg → Prop} (hk : ∀ e c,K e c → K' e c) (h : SX X code c K) : SX X code c K' :=
  fun ρ σ a w hr => Go.wp_mono (h ρ σ a w hr) fun e a w ⟨c',ρ',σ',hr',hk'⟩ => ⟨c',ρ',σ',hr',hk _ _ hk'⟩
theorem SX.skip (h : K .normal c) : SX X .skip c K := fun ρ σ a w hr => wp_skip ⟨c,ρ,σ,hr,h⟩
theorem SX.ret (h : K .ret c) : SX X .ret c K := fun ρ σ a w hr => wp_ret ⟨c,ρ,σ,hr,h⟩
theorem SX.exit {id : Nat} (h : K (.exit id) c) : SX X (.exit id) c K := fun ρ σ a w hr => wp_exit ⟨c,ρ,σ,hr,h⟩
theorem SX.label {l : Nat} (h : K .normal c) : SX X (.label l) c K := fun ρ σ a w hr => wp_label ⟨c,ρ,σ,hr,h⟩
theorem SX.seq {x y : Code} (h : SX X x c (nx (fun c' => SX X y c' K) K)) : SX X (.seq x y) c K := fun ρ σ a w hr => by
  refine wp_seq (Go.wp_mono (h ρ σ a w hr) ?_)
  rintro e a' w' ⟨c',ρ',σ',hr',hk⟩
  cases e with
  | normal => exact hk ρ' σ' a' w' hr'
  | exit id => exact ⟨c',ρ',σ',hr',hk⟩
  | goto l => exact ⟨c',ρ',σ',hr',hk⟩
  | ret => exact ⟨c',ρ',σ',hr',hk⟩
  | panic ch => exact ⟨c',ρ',σ',hr',hk⟩
  | outgrown => exact ⟨c',ρ',σ',hr',hk⟩
theorem SX.block {id : Nat} {x : Code} (h : SX X x c (bx id K)) : SX X (.block id x) c K := fun ρ σ a w hr => by
  refine wp_block (Go.wp_mono (h ρ σ a w hr) ?_)
  rintro e a' w' ⟨c',ρ',σ',hr',hk⟩
  cases e with
  | exit id' =>
    simp only [Exit.inBlock,bx] at hk ⊢
    by_cases e : id' = id
    · rw [if_pos e] at hk ⊢;exact ⟨c',ρ',σ',hr',hk⟩
    · rw [if_neg e] at hk ⊢;exact ⟨c',ρ',σ',hr',hk⟩
  | normal => exact ⟨c',ρ',σ',hr',hk⟩
  | goto l => exact ⟨c',ρ',σ',hr',hk⟩
  | ret => exact ⟨c',ρ',σ',hr',hk⟩
  | panic ch => exact ⟨c',ρ',σ',hr',hk⟩
  | outgrown => exact ⟨c',ρ',σ',hr',hk⟩
theorem SX.cond {x : Operand} {t e : Code} {b : Bool} (hx : c.ev x = vv (.bool b)) (h1 : b = true → SX X t c K) (h2 : b = false → SX X e c K) : SX X (.cond x t e) c K := fun ρ σ a w hr => by
  have he := hr.ev x
  rw [hx] at he
  have he : a.eval x = .bool b := he
  exact wp_cond_split he (fun hb => h1 hb ρ σ a w hr) (fun hb => h2 hb ρ σ a w hr)
theorem SX.region {id : Nat} {ops : Array Oper} (h : OX X ops ops.toList c (K .normal)) : SX X (.region id ops false) c K :=
  fun ρ σ a w hr => wp_region_list (h _ (fun c' ρ' σ' a' w' hr' hk => ⟨c',ρ',σ',hr',hk⟩) ρ σ a w hr)
def envOk (c : Cfg) : List (Nat × SV) → Prop
  | [] => True
  | (t,s) :: l => c.env.lookup t = some s ∧ envOk c l
theorem envOk_lookup : ∀ {l : List (Nat × SV)},envOk c l → ∀ t s,l.lookup t = some s → c.env.lookup t = some s
  | [],_,t,s,h => by simp at h
  | (k,v) :: l,ho,t,s,h => by
    rw [List.lookup_cons] at h
    by_cases e : t = k
    · subst e;simp at h;subst h;exact ho.1
    · have : (t == k) = false := by simpa using e
      rw [this] at h
      exact envOk_lookup ho.2 t s h
def SP.ren (sel : List Nat) : SP → SP
  | .v x => .v x
  | .loc i off => .loc (sel.getD i 0) off
  | .row i => .row (sel.getD i 0)
def SC.ren (sel : List Nat) : SC → SC
  | .v x => .v x
  | .loc i off => .loc (sel.getD i 0) off
  | .sl i off n k => .sl (sel.getD i 0) off n k
  | .row i => .row (sel.getD i 0)
  | .ri i k => .ri (sel.getD i 0) k
  | .clo f fst cap => .clo f (fst.map (SP.ren sel)) (cap.map (SP.ren sel))
  | .dead => .dead
def S1.ren (sel : List Nat) : S1 → S1
  | .c x => .c (x.ren sel)
  | .agg l => .agg (l.map (SC.ren sel))
def SV.ren (sel : List Nat) : SV → SV
  | .one x => .one (x.ren sel)
  | .tup l => .tup (l.map (S1.ren sel))
def LO.ren (sel : List Nat) : LO → LO
  | .cells l t => .cells (l.map (SC.ren sel)) t
  | .row e sz n xs => .row e sz n xs
  | .map es => .map (es.map fun p => (p.1,p.2.ren sel))
  | .ext H => .ext H
  | .gone => .gone
def SP.okB (n : Nat) : SP → Bool
  | .v _ => true
  | .loc i _ | .row i => decide (i < n)
def SC.okB (n : Nat) : SC → Bool
  | .v _ | .dead => true
  | .loc i _ | .sl i _ _ _ | .row i | .ri i _ => decide (i < n)
  | .clo _ fst cap => fst.all (SP.okB n) && cap.all (SP.okB n)
def S1.okB (n : Nat) : S1 → Bool
  | .c x => x.okB n
  | .agg l => l.all (SC.okB n)
def SV.okB (n : Nat) : SV → Bool
  | .one x => x.okB n
  | .tup l => l.all (S1.okB n)
def LO.okB (n : Nat) : LO → Bool
  | .cells l _ => l.all (SC.okB n)
  | .map es => es.all fun p => p.2.okB n
  | _ => true
structure LeR (n : Nat) (sel : List Nat) (d c : Cfg) : Prop where
  pin : ∀ i,i < n → sel[i]? = some i
  env : envOk c (d.env.map fun p => (p.1,p.2.ren sel))
  len : d.loc.length = sel.length
  loc : ∀ (i : Nat) (o : LO),d.loc[i]? = some o → o = .gone ∨ c.loc[sel.getD i 0]? = some (o.ren sel)
  nd : sel.Nodup
  lt : ∀ i ∈ sel,i < c.loc.length
  okE : (d.env.all fun p => p.2.okB sel.length) = true
  okL : (d.loc.all fun o => o.okB sel.length) = true
section ren
variable {ρ : List (List Nat)} {σ : List Value} {sel : List Nat}
def selL {α : Type} (d : α) (l : List α) (sel : List Nat) : List α := sel.map fun i => l.getD i d
theorem selL_get {α : Type} {d : α} {l : List α} {i : Nat} (hi : i < sel.length) {x : α} (h : l[sel.getD i 0]? = some x) : (selL d l sel)[i]? = some x := by
  simp only [selL,List.getElem?_map]
  rw [List.getElem?_eq_getElem hi]
  simp only [Option.map_some]
  rw [List.getD_eq_getElem?_getD,List.getElem?_eq_getElem hi] at h
  simp only [Option.getD_some] at h
  rw [List.getD_eq_getElem?_getD,h]
  rfl
theorem DP.ren {s : SP} {v : Value} (hk : s.okB sel.length = true) (h : DP σ (s.ren sel) v) : DP (selL .nilIface σ sel) s v := by
  cases s with
  | v x => exact h
  | loc i off => obtain ⟨b,hb,e⟩ := h;exact ⟨b,selL_get (by simpa [SP.okB] using hk) hb,e⟩
  | row i => exact selL_get (by simpa [SP.okB] using hk) h
theorem All2.ren {α β : Type} {R S : α → β → Prop} {f : α → α} {ok : α → Bool} (hRS : ∀ a b,ok a = true → R (f a) b → S a b) : ∀ {l : List α} {m : List β},l.all ok = true → All2 R (l.map f) m → All2 S l m
  | [],[],_,_ => trivial
  | a :: l,b :: m,hk,h => by
    simp only [List.all_cons,Bool.and_eq_true] at hk
    exact ⟨hRS _ _ hk.1 h.1,All2.ren hRS hk.2 h.2⟩
  | [],_ :: _,_,h => h.elim
  | _ :: _,[],_,h => h.elim
theorem DC.ren {s : SC} {v : Value} (hk : s.okB sel.length = true) (h : DC σ (s.ren sel) v) : DC (selL .nilIface σ sel) s v := by
  cases s with
  | v x => exact h
  | loc i off => obtain ⟨b,hb,e⟩ := h;exact ⟨b,selL_get (by simpa [SC.okB] using hk) hb,e⟩
  | sl i off n k => obtain ⟨b,hb,e⟩ := h;exact ⟨b,selL_get (by simpa [SC.okB] using hk) hb,e⟩
  | row i => exact selL_get (by simpa [SC.okB] using hk) h
  | ri i k => obtain ⟨a,n,m,e,e2⟩ := h;exact ⟨a,n,m,selL_get (by simpa [SC.okB] using hk) e,e2⟩
  | clo f fst cap =>
    obtain ⟨us,vs,e,hu,ha⟩ := h
    simp only [SC.okB,Bool.and_eq_true] at hk
    exact ⟨us,vs,e,hu.ren (ok := SP.okB sel.length) (fun a b hk h => DP.ren hk h) hk.1,ha.ren (ok := SP.okB sel.length) (fun a b hk h => DP.ren hk h) hk.2⟩
  | dead => trivial
theorem D1.ren {s : S1} {v : Value} (hk : s.okB sel.length = true) (h : D1 σ (s.ren sel) v) : D1 (selL .nilIface σ sel) s v := by
  cases s with
  | c x => exact DC.ren hk h
  | agg l => obtain ⟨cs,e,ha⟩ := h;exact ⟨cs,e,ha.ren (ok := SC.okB sel.length) (fun a b hk h => DC.ren hk h) hk⟩
theorem DV.ren {s : SV} {v : Value} (hk : s.okB sel.length = true) (h : DV σ (s.ren sel) v) : DV (selL .nilIface σ sel) s v := by
  cases s with
  | one x => exact D1.ren hk h
  | tup l => obtain ⟨cs,e,ha⟩ := h;exact ⟨cs,e,ha.ren (ok := S1.okB sel.length) (fun a b hk h => D1.ren hk h) hk⟩
theorem sel_mem {b : Nat} : ∀ {sel : List Nat},b ∈ (selL [] ρ sel).flatten → ∃ i fp,i ∈ sel ∧ ρ[i]? = some fp ∧ b ∈ fp := by
  intro sel h
  obtain ⟨fp,h1,h2⟩ := List.mem_flatten.1 h
  simp only [selL,List.mem_map] at h1
  obtain ⟨i,hi,rfl⟩ := h1
  rw [List.getD_eq_getElem?_getD] at h2
  cases hr : ρ[i]? with
  | none => rw [hr] at h2;simp at h2
  | some fp => rw [hr] at h2;exact ⟨i,fp,hi,hr,h2⟩
theorem nodup_fp {fp : List Nat} {i : Nat} (h : ρ.flatten.Nodup) (hi : ρ[i]? = some fp) : fp.Nodup := by
  induction ρ generalizing i with
  | nil => simp at hi
  | cons f ρ ih =>
    rw [List.flatten_cons,List.nodup_append] at h
    cases i with
    | zero => simp at hi;subst hi;exact h.1
    | succ i => simp at hi;exact ih h.2.1 hi
theorem sel_nodup (h : ρ.flatten.Nodup) : ∀ {sel : List Nat},sel.Nodup → (selL [] ρ sel).flatten.Nodup
  | [],_ => by simp [selL]
  | i :: sel,hs => by
    rw [List.nodup_cons] at hs
    have ih := sel_nodup h hs.2
    simp only [selL,List.map_cons,List.flatten_cons]
    rw [List.nodup_append]
    refine ⟨?_,ih,?_⟩
    · rw [List.getD_eq_getElem?_getD]
      cases hr : ρ[i]? with
      | none => simp
      | some fp => exact nodup_fp h hr
    · intro b hb b' hb' e
      subst e
      rw [List.getD_eq_getElem?_getD] at hb
      cases hr : ρ[i]? with
      | none => rw [hr] at hb;simp at hb
      | some fp =>
        rw [hr] at hb
        obtain ⟨j,fq,hj,hjr,hbq⟩ := sel_mem hb'
        have := flat_inj h hr hjr hb hbq
        subst this
        exact hs.1 hj
end ren
theorem Rel.leR {d : Cfg} {sel : List Nat} {ρ : List (List Nat)} {σ : List Value} {a : Act} {w : World} (h : LeR X.base.length sel d c) (hr : Rel X c ρ σ a w) :
    Rel X d (selL [] ρ sel) (selL .nilIface σ sel) a w := by
  refine ⟨fun t s he => ?_,by simp [selL,h.len],by simp [selL,h.len],fun i o fp v ho hb hv => ?_,sel_nodup hr.inj h.nd,fun b hb => ?_,fun b hb => ?_,hr.low,hr.defers,hr.size,fun u hu => ?_,fun i v hb => ?_⟩
  · have hl : (d.env.map fun p => (p.1,p.2.ren sel)).lookup t = some (s.ren sel) := by
      have : ∀ l : List (Nat × SV),l.lookup t = some s → (l.map fun p => (p.1,p.2.ren sel)).lookup t = some (s.ren sel) := by
        intro l
        induction l with
        | nil => intro h;simp at h
        | cons p l ih =>
          intro h
          rw [List.lookup_cons] at h
          rw [List.map_cons,List.lookup_cons]
          cases hb : t == p.1 with
          | true => rw [hb] at h;simp at h;simp [h]
          | false => rw [hb] at h;exact ih h
      exact this _ he
    obtain ⟨v,hv,hd⟩ := hr.env t _ (envOk_lookup h.env t _ hl)
    refine ⟨v,hv,DV.ren ?_ hd⟩
    have hm : ∀ l : List (Nat × SV),l.lookup t = some s → (l.all fun p => p.2.okB sel.length) = true → s.okB sel.length = true := by
      intro l
      induction l with
      | nil => intro h;simp at h
      | cons p l ih =>
        intro h ha
        rw [List.lookup_cons] at h
        simp only [List.all_cons,Bool.and_eq_true] at ha
        cases hb : t == p.1 with
        | true => rw [hb] at h;simp at h;subst h;exact ha.1
        | false => rw [hb] at h;exact ih h ha.2
    exact hm _ he h.okE
  · have hi : i < sel.length := by rw [← h.len];exact (List.getElem?_eq_some_iff.1 ho).1
    rcases h.loc i o ho with rfl | hc
    · trivial
    have hlt : sel.getD i 0 < c.loc.length := (List.getElem?_eq_some_iff.1 hc).1
    have hb2 : ρ[sel.getD i 0]? = some fp := by
      have hlt2 : sel.getD i 0 < ρ.length := by rw [hr.len];exact hlt
      have h2 : ρ[sel.getD i 0]? = some ρ[sel.getD i 0] := List.getElem?_eq_getElem hlt2
      have := selL_get (d := []) hi h2
      rw [this] at hb;cases hb;exact h2
    have hv2 : σ[sel.getD i 0]? = some v := by
      have hlt2 : sel.getD i 0 < σ.length := by rw [hr.lenS];exact hlt
      have h2 : σ[sel.getD i 0]? = some σ[sel.getD i 0] := List.getElem?_eq_getElem hlt2
      have := selL_get (d := .nilIface) hi h2
      rw [this] at hv;cases hv;exact h2
    have hd := hr.loc _ _ _ _ hc hb2 hv2
    have hok : o.okB sel.length = true := List.all_eq_true.1 h.okL o (List.mem_of_getElem? ho)
    cases o with
    | gone => trivial
    | cells l t => obtain ⟨b,cs,e,hm,hw,ha⟩ := hd;exact ⟨b,cs,e,hm,hw,ha.ren (ok := SC.okB sel.length) (fun a b hk h => DC.ren hk h) hok⟩
    | row e sz n xs => exact hd
    | map es => obtain ⟨b,ms,clock,ms',e,hm,hw,hp,ha⟩ := hd;exact ⟨b,ms,clock,ms',e,hm,hw,hp,All2.ren (R := fun (p : Value × S1) (m : MapEntry) => m.key = p.1 ∧ D1 σ p.2 m.val) (S := fun (p : Value × S1) (m : MapEntry) => m.key = p.1 ∧ D1 (selL .nilIface σ sel) p.2 m.val) (f := fun p => (p.1,p.2.ren sel)) (ok := fun p => p.2.okB sel.length) (fun p m hk h => ⟨h.1,D1.ren hk h.2⟩) hok ha⟩
    | ext H => exact hd
  · obtain ⟨i,fp,hi,hrr,hbm⟩ := sel_mem hb
    exact hr.lt b (mem_flat hrr hbm)
  · obtain ⟨i,fp,hi,hrr,hbm⟩ := sel_mem hb
    exact hr.fresh b (mem_flat hrr hbm)
  · simp only [selL,List.mem_map] at hu
    obtain ⟨i,hi,rfl⟩ := hu
    have hlt : i < σ.length := by rw [hr.lenS];exact h.lt i hi
    rw [List.getD_eq_getElem?_getD,List.getElem?_eq_getElem hlt]
    exact hr.one _ (List.getElem_mem hlt)
  · have hi : i < X.base.length := (List.getElem?_eq_some_iff.1 hb).1
    have hs := h.pin i hi
    refine selL_get (d := Value.nilIface) (List.getElem?_eq_some_iff.1 hs).1 ?_
    rw [List.getD_eq_getElem?_getD,hs];exact hr.pin i v hb
theorem SX.select {code : Code} {d : Cfg} (sel : List Nat) (hd : LeR X.base.length sel d c) (h : SX X code d K) : SX X code c K := fun ρ σ a w hr => h _ _ a w (hr.leR hd)
theorem SX.loop {ι : Type} (S : ι → Cfg) (μ : ι → Nat) {body : Code} (i0 : ι) (h0 : ∃ sel,LeR X.base.length sel (S i0) c)
    (hr : ∀ i,SX X body (S i) (nx (fun c' => ∃ j sel,LeR X.base.length sel (S j) c' ∧ μ j < μ i) K)) : SX X (.loop body) c K := by
  intro ρ σ a w hR
  obtain ⟨sel0,h0⟩ := h0
  refine wp_loop_ghost (fun n a' w' => ∃ i ρ' σ',Rel X (S i) ρ' σ' a' w' ∧ μ i = n) (μ i0) ⟨i0,_,_,hR.leR h0,rfl⟩ ?_
  rintro n a' w' ⟨i,ρ',σ',hR',rfl⟩
  refine Go.wp_mono (hr i ρ' σ' a' w' hR') ?_
  rintro e a2 w2 ⟨c2,ρ2,σ2,hR2,hk⟩
  cases e with
  | normal =>
    obtain ⟨j,sel,hle,hlt⟩ := hk
    exact ⟨μ j,hlt,j,_,_,hR2.leR hle,rfl⟩
  | exit id => exact ⟨c2,ρ2,σ2,hR2,hk⟩
  | goto l => exact ⟨c2,ρ2,σ2,hR2,hk⟩
  | ret => exact ⟨c2,ρ2,σ2,hR2,hk⟩
  | panic ch => exact ⟨c2,ρ2,σ2,hR2,hk⟩
  | outgrown => exact ⟨c2,ρ2,σ2,hR2,hk⟩
end rules
def Fin (X : Ctx) (fn : Func) (R : Ending → World → Prop) : Exit → Cfg → Prop
  | .normal,c | .ret,c => ∀ ρ σ a w,Rel X c ρ σ a w → ∃ v,(results fn a.tmps).run X.P w = .ok v w ∧ R (.returned v) w
  | _,_ => False
theorem calls_of_sx {P : Program} {f : FuncId} {fn : Func} {code : Code} {args : Array Value} {w : World} {own : List Nat} {R : Ending → World → Prop} (hf : P.funcs[f]? = some fn) (hb : fn.body = some code)
    (c0 : Cfg) (ρ0 : List (List Nat)) (σ0 : List Value) (hrel : Rel ⟨P,w,own,fn.ntmps,[]⟩ c0 ρ0 σ0 { tmps := args ++ Array.replicate (fn.ntmps - args.size) undef,defers := [] } w)
    (h : SX ⟨P,w,own,fn.ntmps,[]⟩ code c0 (Fin ⟨P,w,own,fn.ntmps,[]⟩ fn R)) : Calls P f args w R := by
  refine calls_of_wp hf hb (Go.wp_mono (h _ _ _ _ hrel) ?_)
  rintro e a w' ⟨c,ρ,σ,hr,hk⟩
  cases e with
  | normal => obtain ⟨v,hv,hR⟩ := hk ρ σ a w' hr;exact ⟨hr.defers,v,hv,hR⟩
  | ret => obtain ⟨v,hv,hR⟩ := hk ρ σ a w' hr;exact ⟨hr.defers,v,hv,hR⟩
  | exit id => exact hk.elim
  | goto l => exact hk.elim
  | panic ch => exact hk.elim
  | outgrown => exact hk.elim
def argsEnv : Nat → List Value → List (Nat × SV)
  | _,[] => []
  | k,v :: l => (k,svOf v) :: argsEnv (k + 1) l
where svOf : Value → SV
  | .agg cs => .one (.agg (cs.toList.map .v))
  | v => vv v
theorem svOf_spec (σ : List Value) (v : Value) : DV σ (argsEnv.svOf v) v := by
  unfold argsEnv.svOf
  split
  · rename_i cs;exact ⟨cs.toList,by simp,all2_vals _⟩
  · rfl
theorem argsEnv_lookup (σ : List Value) (pre : List Value) : ∀ (vs : List Value) (k t : Nat) (s : SV),pre.length = k → (argsEnv k vs).lookup t = some s → ∃ v,(pre ++ vs)[t]? = some v ∧ DV σ s v
  | [],k,t,s,_,h => by simp [argsEnv] at h
  | v :: vs,k,t,s,hk,h => by
    simp only [argsEnv,List.lookup_cons] at h
    by_cases e : t = k
    · subst e
      simp at h;subst h
      exact ⟨v,by rw [← hk];simp,svOf_spec σ v⟩
    · have : (t == k) = false := by simpa using e
      rw [this] at h
      have := argsEnv_lookup σ (pre ++ [v]) vs (k + 1) t s (by simp [hk]) h
      simpa using this
theorem calls_pure {P : Program} {f : FuncId} {fn : Func} {code : Code} {args : List Value} {R : Ending → World → Prop} (w : World) (hf : P.funcs[f]? = some fn) (hb : fn.body = some code) (hn : args.length ≤ fn.ntmps)
    (h : SX ⟨P,w,[],fn.ntmps,[]⟩ code ⟨argsEnv 0 args,[]⟩ (Fin ⟨P,w,[],fn.ntmps,[]⟩ fn R)) : Calls P f args.toArray w R :=
  calls_of_sx hf hb ⟨argsEnv 0 args,[]⟩ [] [] ⟨fun t s he => by
      obtain ⟨v,hv,hd⟩ := argsEnv_lookup [] [] args 0 t s rfl he
      refine ⟨v,?_,hd⟩
      simp only [List.nil_append] at hv
      have hlt := (List.getElem?_eq_some_iff.1 hv).1
      rw [Array.getElem?_append_left (by simpa using hlt)]
      simpa using hv,rfl,rfl,fun i o fp v ho => by simp at ho,by simp,fun b hb => by simp at hb,fun b hb => by simp at hb,Fr.refl _ _,rfl,by simp;omega,by simp,fun i b hb => by simp at hb⟩ h
theorem Fin.one {X : Ctx} {fn : Func} {R : Ending → World → Prop} {t : Tmp} {c : Cfg} {v : Value} (hr : fn.results = #[.tmp t]) (hv : (c.get t).val? = some v) (hown : X.own = [])
    (h : ∀ w',Below X.wi.heap.size X.wi w' → R (.returned v) w') : Fin X fn R .ret c := by
  intro ρ σ a w hrel
  refine ⟨v,?_,h w (hrel.low.below (by simp [hown]))⟩
  have := hrel.ev (.tmp t)
  rw [results_tmp hr]
  have e : a.tmps.getD t undef = v := SV.val?_spec hv this
  rw [e]
theorem Fin.three {X : Ctx} {fn : Func} {R : Ending → World → Prop} {t u s : Tmp} {c : Cfg} {v1 v2 v3 : Value} (hr : fn.results = #[.tmp t,.tmp u,.tmp s]) (hv : (c.get t).val? = some v1) (hv2 : (c.get u).val? = some v2) (hv3 : (c.get s).val? = some v3) (hown : X.own = [])
    (h : ∀ w',Below X.wi.heap.size X.wi w' → R (.returned (.tuple #[v1,v2,v3])) w') : Fin X fn R .ret c := by
  intro ρ σ a w hrel
  refine ⟨.tuple #[v1,v2,v3],?_,h w (hrel.low.below (by simp [hown]))⟩
  rw [results_tmp3 hr]
  have e1 : a.tmps.getD t undef = v1 := SV.val?_spec hv (hrel.ev (.tmp t))
  have e2 : a.tmps.getD u undef = v2 := SV.val?_spec hv2 (hrel.ev (.tmp u))
  have e3 : a.tmps.getD s undef = v3 := SV.val?_spec hv3 (hrel.ev (.tmp s))
  rw [e1,e2,e3]
section
variable {X : Ctx} {c : Cfg}
def svOne : SV → Option S1
  | .one s => some s
  | .tup _ => none
def resCell (ag : Option Bool) (z : Option Nat) (off : Nat) (l : List SC) : Option S1 := match ag,z with
  | some false,_ => (l[off]?).map .c
  | some true,some n => if off + n ≤ l.length then some (.agg ((l.drop off).take n)) else none
  | _,_ => none
def resLoc (ag : Option Bool) (z : Option Nat) (off : Nat) (o : Option LO) : Option S1 := match o with
  | some (.cells l _) => resCell ag z off l
  | _ => none
def resPtr (ag : Option Bool) (z : Option Nat) (c : Cfg) (s : SV) : Option S1 := match s with
  | .one (.c (.loc i off)) => resLoc ag z off (c.loc[i]?)
  | _ => none
def resOne (X : Ctx) (c : Cfg) : ResultVar → Option S1
  | .tmp t => svOne (c.get t)
  | .cell p ty => resPtr (aggOf X.P ty) (szOf X.P ty) c (c.get p)
def resB (s : Option S1) (r : Option (List S1)) : Option (List S1) := match s,r with | some s,some r => some (s :: r) | _,_ => none
def resL (X : Ctx) (c : Cfg) : List ResultVar → Option (List S1)
  | [] => some []
  | r :: l => resB (resOne X c r) (resL X c l)
def resF (tmps : Array Value) : ResultVar → Sem Value
  | .tmp t => pure (tmps.getD t undef)
  | .cell p t => do loadVar t (← asAddr (tmps.getD p undef))
theorem results_eq (fn : Func) (tmps : Array Value) : results fn tmps = (do let vs ← fn.results.mapM (resF tmps);pure (if h : vs.size = 1 then vs[0] else .tuple vs)) := by
  unfold results
  congr 1
def retV : List Value → Value
  | [v] => v
  | vs => .tuple vs.toArray
def retS : List S1 → SV
  | [s] => .one s
  | l => .tup l
theorem ret_spec {σ : List Value} {l : List S1} {vs : List Value} (h : All2 (D1 σ) l vs) : DV σ (retS l) (retV vs) := by
  match l,vs,h with
  | [],[],h => exact ⟨[],rfl,trivial⟩
  | [s],[v],h => exact h.1
  | a :: b :: l,x :: y :: vs,h => exact ⟨_,rfl,h⟩
  | [],_ :: _,h => exact h.elim
  | _ :: _,[],h => exact h.elim
  | [_],_ :: _ :: _,h => exact h.2.elim
  | _ :: _ :: _,[_],h => exact h.2.elim
theorem resOne_spec {ρ : List (List Nat)} {σ : List Value} {a : Act} {w : World} (hr : Rel X c ρ σ a w) {r : ResultVar} {s : S1} (h : resOne X c r = some s) :
    ∃ v,D1 σ s v ∧ (resF a.tmps r).run X.P w = .ok v w := by
  cases r with
  | tmp t =>
    simp only [resOne] at h
    have e := hr.ev (.tmp t)
    simp only [Cfg.ev] at e
    cases hs : c.get t with
    | one z =>
      rw [hs] at h e
      simp [svOne] at h;subst h
      exact ⟨_,e,by simp [Act.eval,resF]⟩
    | tup l => rw [hs] at h;simp [svOne] at h
  | cell p ty =>
    simp only [resOne,resPtr] at h
    split at h
    · rename_i i off hs
      have e := hr.ev (.tmp p)
      simp only [Cfg.ev] at e
      rw [hs] at e
      obtain ⟨b,hb,e⟩ := e
      have e : a.tmps.getD p undef = .pointer (some ⟨b,off,none⟩) := e
      unfold resLoc at h
      split at h
      · rename_i l t' hl
        obtain ⟨cs,hw,ha,_⟩ := hr.getLoc hl hb
        unfold resCell at h
        split at h
        · rename_i hag
          cases hx : l[off]? with
          | none => rw [hx] at h;simp at h
          | some x =>
            rw [hx] at h;simp at h;subst h
            obtain ⟨v,hv,hd⟩ := ha.get hx
            have hc : w.cell? ⟨b,off,none⟩ = some v := by rw [cell_of_row w b off _ _ _ hw];simpa using hv
            exact ⟨v,hd,by simp [resF,e,asAddr,loadVar,isAgg_run hag,hc]⟩
        · rename_i n hag hz
          split at h
          · rename_i hle
            simp at h;subst h
            have hl2 : ((cs.drop off).take n).length = n := by have := ha.length;simp;omega
            have hrun : (loadCells ⟨b,off,none⟩ n).run X.P w = .ok ((cs.drop off).take n).toArray w := by
              have := run_loadCells_list (P := X.P) w ⟨b,off,none⟩ ((cs.drop off).take n) (fun j v hv => by
                rw [add_add,cell_of_row w b _ _ _ _ hw]
                rw [List.getElem?_take] at hv
                split at hv
                · simpa using hv
                · simp at hv)
              rw [hl2] at this
              exact this
            exact ⟨.agg ((cs.drop off).take n).toArray,⟨_,rfl,(ha.drop off).take n⟩,by simp [resF,e,asAddr,loadVar,isAgg_run hag,sizeOf_run hz,hrun]⟩
          · simp at h
        · simp at h
      · simp at h
    · simp at h
theorem resL_spec {ρ : List (List Nat)} {σ : List Value} {a : Act} {w : World} (hr : Rel X c ρ σ a w) : ∀ {l : List ResultVar} {ss : List S1},resL X c l = some ss →
    ∃ vs,All2 (D1 σ) ss vs ∧ (l.mapM (resF a.tmps)).run X.P w = .ok vs w
  | [],ss,h => by simp [resL] at h;subst h;exact ⟨[],trivial,rfl⟩
  | r :: l,ss,h => by
    simp only [resL,resB] at h
    split at h
    · rename_i s q h1 h2
      simp at h;subst h
      obtain ⟨v,hd,hv⟩ := resOne_spec hr h1
      obtain ⟨vs,hds,hvs⟩ := resL_spec hr h2
      refine ⟨v :: vs,⟨hd,hds⟩,?_⟩
      simp only [List.mapM_cons,Sem.run_bind]
      rw [hv]
      simp only [Result.andThen,Sem.run_bind]
      rw [hvs]
      rfl
    · simp at h
theorem results_run {ρ : List (List Nat)} {σ : List Value} {a : Act} {w : World} (hr : Rel X c ρ σ a w) {fn : Func} {rs : List ResultVar} (hrs : fn.results = rs.toArray) {ss : List S1} (h : resL X c rs = some ss) :
    ∃ vs,All2 (D1 σ) ss vs ∧ (results fn a.tmps).run X.P w = .ok (retV vs) w := by
  obtain ⟨vs,h1,h2⟩ := resL_spec hr h
  refine ⟨vs,h1,?_⟩
  rw [results_eq,hrs]
  simp only [Sem.run_bind]
  have : (rs.toArray.mapM (resF a.tmps)).run X.P w = .ok vs.toArray w := by
    rw [Array.mapM_eq_mapM_toList]
    simp only [Sem.run_map]
    rw [h2]
    rfl
  rw [this]
  simp only [Result.andThen,Sem.run_pure]
  congr 1
  match vs with
  | [] => rfl
  | [v] => rfl
  | a :: b :: l => simp [retV]
def argsS : Nat → List SV → List (Nat × SV)
  | _,[] => []
  | k,s :: l => (k,s) :: argsS (k + 1) l
theorem argsS_lookup {σ : List Value} (pre : List Value) : ∀ (ss : List SV) (vs : List Value) (k t : Nat) (s : SV),All2 (DV σ) ss vs → pre.length = k → (argsS k ss).lookup t = some s → ∃ v,(pre ++ vs)[t]? = some v ∧ DV σ s v
  | [],[],k,t,s,_,_,h => by simp [argsS] at h
  | z :: ss,v :: vs,k,t,s,ha,hk,h => by
    simp only [argsS,List.lookup_cons] at h
    by_cases e : t = k
    · subst e
      simp at h;subst h
      exact ⟨v,by rw [← hk];simp,ha.1⟩
    · have : (t == k) = false := by simpa using e
      rw [this] at h
      have := argsS_lookup (pre ++ [v]) ss vs (k + 1) t s ha.2 (by simp [hk]) h
      simpa using this
  | [],_ :: _,_,_,_,h,_,_ => h.elim
  | _ :: _,[],_,_,_,h,_,_ => h.elim
structure Under (X X' : Ctx) : Prop where
  P : X'.P = X.P
  old : ∀ k,k < X.wi.heap.size → k ∉ X.own → X'.wi.heap[k]? = X.wi.heap[k]? ∧ k ∉ X'.own
theorem Under.cell {X X' : Ctx} (h : Under X X') {ad : Addr} {v : Value} (hv : X.wi.cell? ad = some v) (ho : ad.block ∉ X.own) : X'.wi.cell? ad = some v ∧ ad.block ∉ X'.own := by
  have hlt := World.block_lt_of_cell? X.wi ad hv
  obtain ⟨h1,h2⟩ := h.old ad.block hlt ho
  exact ⟨by rw [World.cell?_of_block h1];exact hv,h2⟩
def FinM (X : Ctx) (rs : List ResultVar) (M : Cfg → SV → Prop) (c : Cfg) : Prop := (∃ ss,resL X c rs = some ss ∧ M c (retS ss)) ∨ ∃ ss sel d ss',resL X c rs = some ss ∧ LeR X.base.length sel d c ∧ ss = ss'.map (S1.ren sel) ∧ (ss'.all fun s => s.okB sel.length) = true ∧ M d (retS ss')
def FinI (X : Ctx) (rs : List ResultVar) (M : Cfg → SV → Prop) : Exit → Cfg → Prop
  | .normal,c | .ret,c => FinM X rs M c
  | _,_ => False
theorem FinM.all {X : Ctx} {rs : List ResultVar} {M : Cfg → SV → Prop} {c : Cfg} {ss : List S1} (h : resL X c rs = some ss) (hM : M c (retS ss)) : FinM X rs M c := .inl ⟨ss,h,hM⟩
theorem FinM.some {X : Ctx} {rs : List ResultVar} {M : Cfg → SV → Prop} {c : Cfg} (sel : List Nat) (d : Cfg) (ss' : List S1) (h : resL X c rs = some (ss'.map (S1.ren sel))) (hl : LeR X.base.length sel d c) (hok : (ss'.all fun s => s.okB sel.length) = true) (hM : M d (retS ss')) : FinM X rs M c :=
  .inr ⟨_,sel,d,ss',h,hl,rfl,hok,hM⟩
theorem all2_ren1 {σ : List Value} {sel : List Nat} : ∀ {ss : List S1} {vs : List Value},(ss.all fun s => s.okB sel.length) = true → All2 (D1 σ) (ss.map (S1.ren sel)) vs → All2 (D1 (selL .nilIface σ sel)) ss vs
  | [],[],_,_ => trivial
  | s :: ss,v :: vs,hk,h => by
    simp only [List.all_cons,Bool.and_eq_true] at hk
    exact ⟨D1.ren hk.1 h.1,all2_ren1 hk.2 h.2⟩
  | [],_ :: _,_,h => h.elim
  | _ :: _,[],_,h => h.elim
theorem CallVC.inline {f : FuncId} {fn : Func} {code : Code} {args : List SV} {N : Cfg → SV → Prop} {rs : List ResultVar} {n : Nat} (hf : X.P.funcs[f]? = some fn) (hb : fn.body = some code) (hnt : fn.ntmps = n) (hrs : fn.results = rs.toArray) (hn : args.length ≤ n)
    (h : ∀ (X' : Ctx) (K : Exit → Cfg → Prop),Under X X' → X'.nt = n → X'.base.length = c.loc.length → (∀ e c',FinI X' rs (fun c' s => N ⟨c.env,c'.loc⟩ s) e c' → K e c') → SX X' code ⟨argsS 0 args,c.loc⟩ K) : CallVC X c f args N := by
  intro ρ σ a w hr vals ha
  subst hnt
  have hlen := ha.length
  have hown : ∀ k,k < X.wi.heap.size → k ∉ X.own → k ∉ ρ.flatten := fun k hk ho hm => by
    rcases hr.fresh k hm with h' | h'
    · omega
    · exact ho h'
  refine calls_of_wp hf hb (Go.wp_mono (h ⟨X.P,w,ρ.flatten,fn.ntmps,σ⟩ _ ⟨rfl,fun k hk ho => ⟨hr.low.block k hk ho,hown k hk ho⟩⟩ rfl hr.lenS (fun _ _ h => h) ρ σ _ w ?_) ?_)
  · refine ⟨fun t s he => ?_,hr.len,hr.lenS,hr.loc,hr.inj,hr.lt,fun b hb => .inr hb,Fr.refl _ _,rfl,by simp;omega,hr.one,fun i b hb => hb⟩
    obtain ⟨v,hv,hd⟩ := argsS_lookup [] args vals 0 t s ha rfl he
    refine ⟨v,?_,hd⟩
    simp only [List.nil_append] at hv
    have hlt := (List.getElem?_eq_some_iff.1 hv).1
    rw [Array.getElem?_append_left (by simpa using hlt)]
    simpa using hv
  · rintro e a' w' ⟨c',ρ',σ',hr',hk⟩
    have fin : ∀ (hk : FinM (⟨X.P,w,ρ.flatten,fn.ntmps,σ⟩ : Ctx) rs (fun c' s => N ⟨c.env,c'.loc⟩ s) c'),
        a'.defers = [] ∧ ∃ v,(results fn a'.tmps).run X.P w' = .ok v w' ∧ ∃ v2 c2 ρ2 σ2 s,Ending.returned v = .returned v2 ∧ Rel X c2 ρ2 σ2 a w' ∧ DV σ2 s v2 ∧ N c2 s := by
      intro hk
      have key : ∃ ss,resL (⟨X.P,w,ρ.flatten,fn.ntmps,σ⟩ : Ctx) c' rs = some ss ∧ ∃ (d : Cfg) (ρ2 : List (List Nat)) (σ2 : List Value) (ss' : List S1),Rel ⟨X.P,w,ρ.flatten,fn.ntmps,σ⟩ d ρ2 σ2 a' w' ∧ (∀ vs,All2 (D1 σ') ss vs → All2 (D1 σ2) ss' vs) ∧ N ⟨c.env,d.loc⟩ (retS ss') := by
        rcases hk with ⟨ss,hss,hN⟩ | ⟨ss,sel,d,ss',hss,hle,rfl,hok,hN⟩
        · exact ⟨ss,hss,c',ρ',σ',ss,hr',fun vs h => h,hN⟩
        · exact ⟨_,hss,d,_,_,ss',hr'.leR (X := ⟨X.P,w,ρ.flatten,fn.ntmps,σ⟩) hle,fun vs h => all2_ren1 hok h,hN⟩
      obtain ⟨ss,hss,d,ρ2,σ2,ss',hd',hds',hN⟩ := key
      obtain ⟨vs,hds,hrun⟩ := results_run hr' hrs hss
      refine ⟨hr'.defers,_,hrun,_,⟨c.env,d.loc⟩,ρ2,σ2,_,rfl,?_,ret_spec (hds' _ hds),hN⟩
      have hup : Up σ σ2 := fun i v hv => hd'.pin i v hv
      refine ⟨fun t s he => ?_,hd'.len,hd'.lenS,hd'.loc,hd'.inj,hd'.lt,fun b hb => ?_,?_,hr.defers,hr.size,hd'.one,fun i b hb => hup _ _ (hr.pin i b hb)⟩
      · obtain ⟨v,hv,hdv⟩ := hr.env t s he
        exact ⟨v,hv,DV.mono hup _ _ hdv⟩
      · rcases hd'.fresh b hb with h' | h'
        · exact .inl (Nat.le_trans hr.low.size h')
        · exact hr.fresh b h'
      · refine ⟨hd'.low.os.trans hr.low.os,hd'.low.tape.trans hr.low.tape,hd'.low.output.trans hr.low.output,Nat.le_trans hr.low.size hd'.low.size,fun k hk hx => ?_⟩
        rw [← hr.low.block k hk hx]
        exact hd'.low.block k (Nat.lt_of_lt_of_le hk hr.low.size) (hown k hk hx)
    cases e with
    | normal => exact fin hk
    | ret => exact fin hk
    | exit id => exact hk.elim
    | goto l => exact hk.elim
    | panic ch => exact hk.elim
    | outgrown => exact hk.elim
def locOk (c : Cfg) (full : List Nat) : List LO → List Nat → Prop
  | [],[] => True
  | o :: l,s :: sel => (o = .gone ∨ c.loc[s]? = some (o.ren full)) ∧ locOk c full l sel
  | _,_ => False
def pinOk (n : Nat) (sel : List Nat) : Bool := (List.range n).all fun i => sel[i]? == some i
theorem locOk_spec {full : List Nat} : ∀ {l : List LO} {sel : List Nat},locOk c full l sel → l.length = sel.length ∧ ∀ (i : Nat) (o : LO),l[i]? = some o → o = .gone ∨ c.loc[sel.getD i 0]? = some (o.ren full)
  | [],[],_ => ⟨rfl,fun i o h => by simp at h⟩
  | o :: l,s :: sel,h => by
    obtain ⟨h1,h2⟩ := locOk_spec h.2
    refine ⟨by simp [h1],fun i o' ho => ?_⟩
    cases i with
    | zero => simp at ho;subst ho;simpa using h.1
    | succ i => simp at ho;simpa using h2 i o' ho
  | [],_ :: _,h => h.elim
  | _ :: _,[],h => h.elim
theorem LeR.of {n : Nat} {sel : List Nat} {d : Cfg} (h1 : pinOk n sel = true) (h2 : envOk c (d.env.map fun p => (p.1,p.2.ren sel))) (h3 : locOk c sel d.loc sel) (h4 : sel.Nodup) (h5 : (sel.all fun i => decide (i < c.loc.length)) = true)
    (h6 : (d.env.all fun p => p.2.okB sel.length) = true) (h7 : (d.loc.all fun o => o.okB sel.length) = true) : LeR n sel d c :=
  ⟨fun i hi => by
      have := List.all_eq_true.1 h1 i (List.mem_range.2 hi)
      simpa using this,h2,(locOk_spec h3).1,(locOk_spec h3).2,h4,fun i hi => by simpa using List.all_eq_true.1 h5 i hi,h6,h7⟩
end
def Emb (f : Nat → Nat) (σ σ' : List Value) : Prop := ∀ (i : Nat) (v : Value),σ[i]? = some v → σ'[f i]? = some v
section emb
variable {sel : List Nat} {σ σ' : List Value}
theorem All2.emb {α β : Type} {R S : α → β → Prop} {f : α → α} (hRS : ∀ a b,R a b → S (f a) b) : ∀ {l : List α} {m : List β},All2 R l m → All2 S (l.map f) m
  | [],[],_ => trivial
  | a :: l,b :: m,h => ⟨hRS _ _ h.1,All2.emb hRS h.2⟩
  | [],_ :: _,h => h.elim
  | _ :: _,[],h => h.elim
theorem DP.emb (he : Emb (fun i => sel.getD i 0) σ σ') {s : SP} {v : Value} (h : DP σ s v) : DP σ' (s.ren sel) v := by
  cases s with
  | v x => exact h
  | loc i off => obtain ⟨b,hb,e⟩ := h;exact ⟨b,he _ _ hb,e⟩
  | row i => exact he _ _ h
theorem DC.emb (he : Emb (fun i => sel.getD i 0) σ σ') {s : SC} {v : Value} (h : DC σ s v) : DC σ' (s.ren sel) v := by
  cases s with
  | v x => exact h
  | loc i off => obtain ⟨b,hb,e⟩ := h;exact ⟨b,he _ _ hb,e⟩
  | sl i off n k => obtain ⟨b,hb,e⟩ := h;exact ⟨b,he _ _ hb,e⟩
  | row i => exact he _ _ h
  | ri i k => obtain ⟨a,n,m,e,e2⟩ := h;exact ⟨a,n,m,he _ _ e,e2⟩
  | clo f fst cap => obtain ⟨us,vs,e,hu,hv⟩ := h;exact ⟨us,vs,e,hu.emb (fun a b h => DP.emb he h),hv.emb (fun a b h => DP.emb he h)⟩
  | dead => trivial
theorem D1.emb (he : Emb (fun i => sel.getD i 0) σ σ') {s : S1} {v : Value} (h : D1 σ s v) : D1 σ' (s.ren sel) v := by
  cases s with
  | c x => exact DC.emb he h
  | agg l => obtain ⟨cs,e,ha⟩ := h;exact ⟨cs,e,ha.emb (fun a b h => DC.emb he h)⟩
theorem DV.emb (he : Emb (fun i => sel.getD i 0) σ σ') {s : SV} {v : Value} (h : DV σ s v) : DV σ' (s.ren sel) v := by
  cases s with
  | one x => exact D1.emb he h
  | tup l => obtain ⟨cs,e,ha⟩ := h;exact ⟨cs,e,ha.emb (fun a b h => D1.emb he h)⟩
theorem DL.emb (he : Emb (fun i => sel.getD i 0) σ σ') {w : World} {fp : List Nat} {h : Value} {o : LO} (hd : DL σ w fp h o) : DL σ' w fp h (o.ren sel) := by
  cases o with
  | gone => trivial
  | cells l t => obtain ⟨b,cs,e,hm,hw,ha⟩ := hd;exact ⟨b,cs,e,hm,hw,ha.emb (fun a b h => DC.emb he h)⟩
  | row e sz n xs => exact hd
  | map es =>
    obtain ⟨b,ms,clock,ms',e,hm,hw,hp,ha⟩ := hd
    exact ⟨b,ms,clock,ms',e,hm,hw,hp,All2.emb (R := fun (p : Value × S1) (m : MapEntry) => m.key = p.1 ∧ D1 σ p.2 m.val) (S := fun (p : Value × S1) (m : MapEntry) => m.key = p.1 ∧ D1 σ' p.2 m.val) (f := fun p => (p.1,p.2.ren sel)) (fun p m h => ⟨h.1,D1.emb he h.2⟩) ha⟩
  | ext H => exact hd
end emb
def setAll {α : Type} : List α → List Nat → List α → List α
  | l,i :: sel,o :: os => setAll (l.set i o) sel os
  | l,_,_ => l
theorem setAll_length {α : Type} : ∀ (l : List α) (sel : List Nat) (os : List α),(setAll l sel os).length = l.length
  | l,[],_ => by simp [setAll]
  | l,_ :: _,[] => by simp [setAll]
  | l,i :: sel,o :: os => by rw [setAll,setAll_length];simp
theorem setAll_other {α : Type} {j : Nat} : ∀ (l : List α) (sel : List Nat) (os : List α),j ∉ sel → (setAll l sel os)[j]? = l[j]?
  | l,[],_,_ => by simp [setAll]
  | l,_ :: _,[],_ => by simp [setAll]
  | l,i :: sel,o :: os,h => by
    simp only [List.mem_cons,not_or] at h
    rw [setAll,setAll_other _ _ _ h.2,List.getElem?_set_ne (by omega)]
theorem setAll_at {α : Type} {i : Nat} {o : α} : ∀ (l : List α) (sel : List Nat) (os : List α),sel.Nodup → (∀ j ∈ sel,j < l.length) → i < sel.length → os[i]? = some o → (setAll l sel os)[sel.getD i 0]? = some o := by
  induction i with
  | zero =>
    intro l sel os hn hl hi ho
    cases sel with
    | nil => simp at hi
    | cons s sel =>
      cases os with
      | nil => simp at ho
      | cons x os =>
        simp at ho;subst ho
        rw [List.nodup_cons] at hn
        simp only [List.getD_cons_zero,setAll]
        rw [setAll_other _ _ _ hn.1]
        exact List.getElem?_set_self (hl s (by simp))
  | succ i ih =>
    intro l sel os hn hl hi ho
    cases sel with
    | nil => simp at hi
    | cons s sel =>
      cases os with
      | nil => simp at ho
      | cons x os =>
        rw [List.nodup_cons] at hn
        simp only [List.getD_cons_succ,setAll]
        exact ih _ _ _ hn.2 (fun j hj => by simpa using hl j (by simp [hj])) (by simpa using hi) (by simpa using ho)
theorem flat_nodup : ∀ {ρ : List (List Nat)},(∀ (i : Nat) (fp : List Nat),ρ[i]? = some fp → fp.Nodup) → (∀ (i j b : Nat) (fp fq : List Nat),ρ[i]? = some fp → ρ[j]? = some fq → b ∈ fp → b ∈ fq → i = j) → ρ.flatten.Nodup
  | [],_,_ => by simp
  | f :: ρ,h1,h2 => by
    rw [List.flatten_cons,List.nodup_append]
    refine ⟨h1 0 f rfl,flat_nodup (fun i fp h => h1 (i + 1) fp (by simpa using h)) (fun i j b fp fq hi hj hb hb' => by
      have := h2 (i + 1) (j + 1) b fp fq (by simpa using hi) (by simpa using hj) hb hb';omega),fun a ha b hb e => ?_⟩
    subst e
    obtain ⟨fq,h3,h4⟩ := List.mem_flatten.1 hb
    obtain ⟨j,hj⟩ := List.mem_iff_getElem?.1 h3
    have := h2 0 (j + 1) a f fq rfl (by simpa using hj) ha h4
    omega
def selX (n k m : Nat) (sel : List Nat) : List Nat := sel ++ (List.range (m - k)).map (n + ·)
def Cfg.patch (c : Cfg) (sel : List Nat) (os : List LO) : Cfg :=
  { env := c.env,loc := setAll c.loc sel ((os.take sel.length).map (LO.ren (selX c.loc.length sel.length os.length sel))) ++ (os.drop sel.length).map (LO.ren (selX c.loc.length sel.length os.length sel)) }
theorem mem_idx {sel : List Nat} {j : Nat} (h : j ∈ sel) : ∃ i,i < sel.length ∧ sel.getD i 0 = j := by
  obtain ⟨i,hi⟩ := List.mem_iff_getElem?.1 h
  exact ⟨i,(List.getElem?_eq_some_iff.1 hi).1,by rw [List.getD_eq_getElem?_getD,hi];rfl⟩
section
variable {X : Ctx} {c : Cfg}
theorem CallVC.frame {f : FuncId} {os : List LO} {args args' : List SV} {Q N : Cfg → SV → Prop} (sel : List Nat) (h : ∀ X' : Ctx,Under X X' → CallVC X' ⟨[],os⟩ f args Q)
    (hle : LeR 0 sel ⟨[],os⟩ c) (ha' : args' = args.map (SV.ren sel)) (hok : (args.all fun s => s.okB sel.length) = true)
    (hN : ∀ c' s,Q c' s → N (c.patch sel c'.loc) (s.ren (selX c.loc.length sel.length c'.loc.length sel))) : CallVC X c f args' N := by
  subst ha'
  intro ρ σ a w hr vals ha
  have hown : ∀ k,k < X.wi.heap.size → k ∉ X.own → k ∉ (selL [] ρ sel).flatten := fun k hk ho hm => by
    obtain ⟨i,fp,_,hf,hb⟩ := sel_mem hm
    rcases hr.fresh k (mem_flat hf hb) with h' | h'
    · omega
    · exact ho h'
  have hU : Under X ⟨X.P,w,(selL [] ρ sel).flatten,0,selL .nilIface σ sel⟩ := ⟨rfl,fun k hk ho => ⟨hr.low.block k hk ho,hown k hk ho⟩⟩
  have hR0 : Rel ⟨X.P,w,(selL [] ρ sel).flatten,0,selL .nilIface σ sel⟩ ⟨[],os⟩ (selL [] ρ sel) (selL .nilIface σ sel) ⟨#[],[]⟩ w := by
    have hh := Rel.leR (X := { X with base := [] }) (d := ⟨[],os⟩) (sel := sel) hle ⟨hr.env,hr.len,hr.lenS,hr.loc,hr.inj,hr.lt,hr.fresh,hr.low,hr.defers,hr.size,hr.one,fun i v hv => by simp at hv⟩
    exact ⟨fun t s he => by simp at he,hh.len,hh.lenS,hh.loc,hh.inj,hh.lt,fun b hb => .inr hb,Fr.refl _ _,rfl,rfl,hh.one,fun i v hv => hv⟩
  have hav : All2 (DV (selL .nilIface σ sel)) args vals := by
    have : ∀ {l : List SV} {m : List Value},(l.all fun s => s.okB sel.length) = true → All2 (DV σ) (l.map (SV.ren sel)) m → All2 (DV (selL .nilIface σ sel)) l m := by
      intro l
      induction l with
      | nil => intro m _ h;cases m with | nil => trivial | cons _ _ => exact h.elim
      | cons s l ih =>
        intro m hk h
        cases m with
        | nil => exact h.elim
        | cons v m =>
          simp only [List.all_cons,Bool.and_eq_true] at hk
          exact ⟨DV.ren hk.1 h.1,ih hk.2 h.2⟩
    exact this hok ha
  refine (h _ hU _ _ _ _ hR0 vals hav).mono ?_
  rintro e w' ⟨v,c',ρ',σ',s,rfl,hr',hs,hq⟩
  have hk : sel.length = os.length := hle.len.symm
  have hkσ : (selL Value.nilIface σ sel).length = sel.length := by simp [selL]
  have hm : sel.length ≤ c'.loc.length := by
    rw [← hr'.lenS]
    rcases Nat.lt_or_ge σ'.length sel.length with hlt | hge
    · have h1 : σ'.length < (selL Value.nilIface σ sel).length := by rw [hkσ];exact hlt
      have h2 := hr'.pin σ'.length _ (List.getElem?_eq_getElem h1)
      have := (List.getElem?_eq_some_iff.1 h2).1
      omega
    · exact hge
  have hn : ρ.length = c.loc.length := hr.len
  have hX1 : ∀ i,i < sel.length → (selX c.loc.length sel.length c'.loc.length sel).getD i 0 = sel.getD i 0 := fun i hi => by
    simp only [selX,List.getD_eq_getElem?_getD];rw [List.getElem?_append_left hi]
  have hX2 : ∀ i,sel.length ≤ i → i < c'.loc.length → (selX c.loc.length sel.length c'.loc.length sel).getD i 0 = c.loc.length + (i - sel.length) := fun i hi hlt => by
    simp only [selX,List.getD_eq_getElem?_getD];rw [List.getElem?_append_right hi,List.getElem?_map,List.getElem?_range (by omega)];rfl
  have hσsel : ∀ i u,i < sel.length → σ'[i]? = some u → σ[sel.getD i 0]? = some u := fun i u hi hu => by
    have h1 : i < (selL Value.nilIface σ sel).length := by rw [hkσ];exact hi
    have h2 := hr'.pin i _ (List.getElem?_eq_getElem h1)
    rw [hu] at h2
    cases h2
    have hlt : sel.getD i 0 < σ.length := by
      rw [hr.lenS];exact hle.lt _ (by rw [List.getD_eq_getElem?_getD,List.getElem?_eq_getElem hi];exact List.getElem_mem hi)
    have h3 := selL_get (d := Value.nilIface) hi (List.getElem?_eq_getElem hlt)
    rw [List.getElem?_eq_getElem h1] at h3
    rw [List.getElem?_eq_getElem hlt]
    exact h3.symm
  have hup : Up σ (σ ++ σ'.drop sel.length) := Up.append _ _
  have hemb : Emb (fun i => (selX c.loc.length sel.length c'.loc.length sel).getD i 0) σ' (σ ++ σ'.drop sel.length) := fun i u hu => by
    rcases Nat.lt_or_ge i sel.length with hi | hi
    · show (σ ++ _)[(selX _ _ _ _).getD i 0]? = _
      rw [hX1 i hi]
      exact hup _ _ (hσsel i u hi hu)
    · have hlt : i < c'.loc.length := by rw [← hr'.lenS];exact (List.getElem?_eq_some_iff.1 hu).1
      show (σ ++ _)[(selX _ _ _ _).getD i 0]? = _
      rw [hX2 i hi hlt,List.getElem?_append_right (by rw [hr.lenS];omega),List.getElem?_drop]
      rw [hr.lenS,show sel.length + (c.loc.length + (i - sel.length) - c.loc.length) = i by omega]
      exact hu
  have hsl : ∀ j ∈ sel,j < ρ.length := fun j hj => by rw [hn];exact hle.lt j hj
  have hat : ∀ i fp,i < sel.length → ρ'[i]? = some fp → (setAll ρ sel (ρ'.take sel.length) ++ ρ'.drop sel.length)[sel.getD i 0]? = some fp := fun i fp hi hf => by
    have h1 : (ρ'.take sel.length)[i]? = some fp := by rw [List.getElem?_take];simp [hi,hf]
    have h2 := setAll_at ρ sel (ρ'.take sel.length) hle.nd hsl hi h1
    rw [List.getElem?_append_left (List.getElem?_eq_some_iff.1 h2).1]
    exact h2
  have hcase : ∀ j fp,(setAll ρ sel (ρ'.take sel.length) ++ ρ'.drop sel.length)[j]? = some fp →
      (j ∉ sel ∧ ρ[j]? = some fp) ∨ (∃ i,ρ'[i]? = some fp ∧ (selX c.loc.length sel.length c'.loc.length sel).getD i 0 = j) := fun j fp hj => by
    rcases Nat.lt_or_ge j ρ.length with hlt | hge
    · rw [List.getElem?_append_left (by rw [setAll_length];exact hlt)] at hj
      by_cases hjs : j ∈ sel
      · obtain ⟨i,hi,rfl⟩ := mem_idx hjs
        have hi' : i < ρ'.length := by rw [hr'.len];omega
        have h2 := setAll_at ρ sel (ρ'.take sel.length) hle.nd hsl hi (o := ρ'[i]) (by rw [List.getElem?_take];simp [hi,hi'])
        rw [h2] at hj;cases hj
        exact .inr ⟨i,List.getElem?_eq_getElem hi',hX1 i hi⟩
      · rw [setAll_other _ _ _ hjs] at hj
        exact .inl ⟨hjs,hj⟩
    · rw [List.getElem?_append_right (by rw [setAll_length];exact hge),setAll_length,List.getElem?_drop] at hj
      have hlt : sel.length + (j - ρ.length) < ρ'.length := (List.getElem?_eq_some_iff.1 hj).1
      refine .inr ⟨_,hj,?_⟩
      rw [hX2 _ (by omega) (by rw [← hr'.len];exact hlt)]
      omega
  have hblk : ∀ b ∈ ρ'.flatten,w.heap.size ≤ b ∨ ∃ i fq,i ∈ sel ∧ ρ[i]? = some fq ∧ b ∈ fq := fun b hb => by
    rcases hr'.fresh b hb with h' | h'
    · exact .inl h'
    · exact .inr (sel_mem h')
  have hdis : ∀ j fp i fq b,j ∉ sel → ρ[j]? = some fp → ρ'[i]? = some fq → b ∈ fp → b ∈ fq → False := fun j fp i fq b hjs hj hi hb hb' => by
    rcases hblk b (mem_flat hi hb') with h' | ⟨s',fr,hs',hfr,hbr⟩
    · have := hr.lt b (mem_flat hj hb);omega
    · have := flat_inj hr.inj hj hfr hb hbr
      subst this
      exact hjs hs'
  have hmem : ∀ b,b ∈ (setAll ρ sel (ρ'.take sel.length) ++ ρ'.drop sel.length).flatten → b ∈ ρ.flatten ∨ (w.heap.size ≤ b ∧ b < w'.heap.size) := fun b hb => by
    obtain ⟨fp,h1,h2⟩ := List.mem_flatten.1 hb
    obtain ⟨j,hj⟩ := List.mem_iff_getElem?.1 h1
    rcases hcase j fp hj with ⟨_,h3⟩ | ⟨i,h3,_⟩
    · exact .inl (mem_flat h3 h2)
    · rcases hblk b (mem_flat h3 h2) with h' | ⟨s',fr,_,hfr,hbr⟩
      · exact .inr ⟨h',hr'.lt b (mem_flat h3 h2)⟩
      · exact .inl (mem_flat hfr hbr)
  refine ⟨v,c.patch sel c'.loc,setAll ρ sel (ρ'.take sel.length) ++ ρ'.drop sel.length,σ ++ σ'.drop sel.length,_,rfl,?_,DV.emb hemb hs,hN c' s hq⟩
  refine ⟨fun t s0 he => ?_,?_,?_,fun j o fp u ho hb hu => ?_,flat_nodup (fun j fp hj => ?_) (fun j1 j2 b fp fq h1 h2 hb1 hb2 => ?_),fun b hb => ?_,fun b hb => ?_,?_,hr.defers,hr.size,fun u hu => ?_,fun i u hu => hup _ _ (hr.pin i u hu)⟩
  · obtain ⟨u,hu,hd⟩ := hr.env t s0 he
    exact ⟨u,hu,DV.mono hup _ _ hd⟩
  · simp [Cfg.patch,setAll_length,hn,hr'.len]
  · simp [Cfg.patch,setAll_length,hr.lenS,hr'.lenS]
  · simp only [Cfg.patch] at ho
    rcases Nat.lt_or_ge j c.loc.length with hlt | hge
    · rw [List.getElem?_append_left (by rw [setAll_length];exact hlt)] at ho
      by_cases hjs : j ∈ sel
      · obtain ⟨i,hi,rfl⟩ := mem_idx hjs
        have hi' : i < c'.loc.length := by omega
        have h2 := setAll_at c.loc sel ((c'.loc.take sel.length).map (LO.ren (selX c.loc.length sel.length c'.loc.length sel))) hle.nd hle.lt hi (o := (c'.loc[i]).ren (selX c.loc.length sel.length c'.loc.length sel)) (by
          rw [List.getElem?_map,List.getElem?_take];simp [hi,hi'])
        rw [h2] at ho;cases ho
        have hir : i < ρ'.length := by rw [hr'.len];exact hi'
        have his : i < σ'.length := by rw [hr'.lenS];exact hi'
        rw [hat i ρ'[i] hi (List.getElem?_eq_getElem hir)] at hb;cases hb
        have hu2 := hσsel i σ'[i] hi (List.getElem?_eq_getElem his)
        rw [hup _ _ hu2] at hu;cases hu
        exact DL.emb hemb (hr'.loc i _ _ _ (List.getElem?_eq_getElem hi') (List.getElem?_eq_getElem hir) (List.getElem?_eq_getElem his))
      · rw [setAll_other _ _ _ hjs] at ho
        rcases hcase j fp hb with ⟨_,h3⟩ | ⟨i,h3,h4⟩
        · have hu' : σ[j]? = some u := by rw [List.getElem?_append_left (by rw [hr.lenS];exact hlt)] at hu;exact hu
          refine DL.kept hup hr'.low.size (fun k hk => hr'.low.block k (hr.lt k (mem_flat h3 hk)) (fun hko => ?_)) (hr.loc j o fp u ho h3 hu')
          obtain ⟨s',fr,hs',hfr,hbr⟩ := sel_mem hko
          exact hjs (flat_inj hr.inj h3 hfr hk hbr ▸ hs')
        · have hi' : i < c'.loc.length := by rw [← hr'.len];exact (List.getElem?_eq_some_iff.1 h3).1
          rcases Nat.lt_or_ge i sel.length with hi | hi
          · rw [hX1 i hi] at h4
            exact absurd (by rw [← h4,List.getD_eq_getElem?_getD,List.getElem?_eq_getElem hi];exact List.getElem_mem hi) hjs
          · rw [hX2 i hi hi'] at h4;omega
    · rw [List.getElem?_append_right (by rw [setAll_length];exact hge),setAll_length,List.getElem?_map,List.getElem?_drop] at ho
      cases hc : c'.loc[sel.length + (j - c.loc.length)]? with
      | none => rw [hc] at ho;simp at ho
      | some o0 =>
        rw [hc] at ho;simp at ho;subst ho
        rw [List.getElem?_append_right (by rw [setAll_length,hn];exact hge),setAll_length,List.getElem?_drop,hn] at hb
        rw [List.getElem?_append_right (by rw [hr.lenS];exact hge),List.getElem?_drop,hr.lenS] at hu
        exact DL.emb hemb (hr'.loc _ _ _ _ hc hb hu)
  · rcases hcase j fp hj with ⟨_,h3⟩ | ⟨i,h3,_⟩
    · exact nodup_fp hr.inj h3
    · exact nodup_fp hr'.inj h3
  · rcases hcase j1 fp h1 with ⟨g1,k1⟩ | ⟨i1,k1,g1⟩ <;> rcases hcase j2 fq h2 with ⟨g2,k2⟩ | ⟨i2,k2,g2⟩
    · exact flat_inj hr.inj k1 k2 hb1 hb2
    · exact (hdis _ _ _ _ _ g1 k1 k2 hb1 hb2).elim
    · exact (hdis _ _ _ _ _ g2 k2 k1 hb2 hb1).elim
    · rw [← g1,← g2,flat_inj hr'.inj k1 k2 hb1 hb2]
  · rcases hmem b hb with h' | h'
    · exact Nat.lt_of_lt_of_le (hr.lt b h') hr'.low.size
    · exact h'.2
  · rcases hmem b hb with h' | h'
    · exact hr.fresh b h'
    · exact .inl (Nat.le_trans hr.low.size h'.1)
  · refine ⟨hr'.low.os.trans hr.low.os,hr'.low.tape.trans hr.low.tape,hr'.low.output.trans hr.low.output,Nat.le_trans hr.low.size hr'.low.size,fun k hk hx => ?_⟩
    rw [← hr.low.block k hk hx]
    exact hr'.low.block k (Nat.lt_of_lt_of_le hk hr.low.size) (hown k hk hx)
  · rcases List.mem_append.1 hu with hu | hu
    · exact hr.one u hu
    · exact hr'.one u (List.mem_of_mem_drop hu)
def nums {α : Type} : Nat → List α → List Nat
  | _,[] => []
  | n,_ :: l => n :: nums (n + 1) l
theorem nums_eq {α : Type} : ∀ (n : Nat) (l : List α),nums n l = (List.range l.length).map (n + ·)
  | n,[] => rfl
  | n,a :: l => by
    simp only [nums,List.length_cons,List.range_succ_eq_map,List.map_cons,List.map_map,Nat.add_zero,List.cons.injEq,true_and]
    rw [nums_eq (n + 1) l]
    congr 1
    funext i
    simp only [Function.comp]
    omega
def selN {α : Type} (n : Nat) (sel : List Nat) (os : List α) : List Nat := sel ++ nums n (os.drop sel.length)
theorem selN_eq {α : Type} (n : Nat) (sel : List Nat) (os : List α) : selN n sel os = selX n sel.length os.length sel := by
  simp [selN,selX,nums_eq]
def patchL (loc : List LO) (sel q : List Nat) (os : List LO) : List LO := setAll loc sel ((os.take sel.length).map (LO.ren q)) ++ (os.drop sel.length).map (LO.ren q)
def loneStr (w : World) (p : Addr × Value) : Prop := match p.2 with
  | .string _ => ∃ cs t,w.heap[p.1.block]? = some (.cells cs t (0,0))
  | _ => True
def Known (X : Ctx) (G : List (Addr × Value)) : Prop := ∀ p ∈ G,X.wi.cell? p.1 = some p.2 ∧ p.1.block ∉ X.own ∧ loneStr X.wi p
theorem Known.under {X X' : Ctx} {G : List (Addr × Value)} (h : Known X G) (hU : Under X X') : Known X' G := fun p hp => by
  obtain ⟨h1,h2,h3⟩ := h p hp
  obtain ⟨k1,k2⟩ := hU.cell h1 h2
  refine ⟨k1,k2,?_⟩
  unfold loneStr at h3 ⊢
  split
  · rename_i s hs
    rw [hs] at h3
    obtain ⟨cs,t,h4⟩ := h3
    exact ⟨cs,t,(hU.old _ (Array.getElem?_eq_some_iff.1 h4).1 h2).1.trans h4⟩
  · trivial
theorem Known.mono {X : Ctx} {G G' : List (Addr × Value)} (h : Known X G) (hs : ∀ p ∈ G',p ∈ G) : Known X G' := fun p hp => h p (hs p hp)
def Ctr (P : Program) (G : List (Addr × Value)) (f : FuncId) (os : List LO) (args : List SV) (R : List LO → SV → Prop) : Prop :=
  ∀ X : Ctx,X.P = P → Known X G → ∀ N : Cfg → SV → Prop,(∀ os' s,R os' s → N ⟨[],os'⟩ s) → CallVC X ⟨[],os⟩ f args N
theorem Ctr.mono {P : Program} {G : List (Addr × Value)} {f : FuncId} {os : List LO} {args : List SV} {R R' : List LO → SV → Prop} (h : Ctr P G f os args R) (hR : ∀ os s,R os s → R' os s) : Ctr P G f os args R' :=
  fun X hP hG N hN => h X hP hG N (fun os s hr => hN os s (hR os s hr))
theorem Ctr.use {P : Program} {G : List (Addr × Value)} {f : FuncId} {os : List LO} {args args' : List SV} {R : List LO → SV → Prop} {N : Cfg → SV → Prop} (h : Ctr P G f os args R) (hP : X.P = P) (hG : Known X G) (sel : List Nat)
    (hle : LeR 0 sel ⟨[],os⟩ c) (ha' : args' = args.map (SV.ren sel)) (hok : (args.all fun s => s.okB sel.length) = true)
    (hN : ∀ os' s,R os' s → N { env := c.env,loc := patchL c.loc sel (selN c.loc.length sel os') os' } (s.ren (selN c.loc.length sel os'))) : CallVC X c f args' N := by
  refine CallVC.frame sel (Q := fun c' s => R c'.loc s) (fun X' hU => h X' (by rw [hU.P,hP]) (hG.under hU) _ (fun os s hr => hr)) hle ha' hok (fun c' s hq => ?_)
  have := hN c'.loc s hq
  rw [selN_eq] at this
  exact this
theorem CallVC.below {f : FuncId} {args : List SV} {N : Cfg → SV → Prop} (h : ∀ ρ σ a w,Rel X c ρ σ a w → ∀ vals,All2 (DV σ) args vals →
    ∃ R : SV → Prop,Calls X.P f vals.toArray w (fun e w' => ∃ v s,e = .returned v ∧ Below w.heap.size w w' ∧ DV σ s v ∧ R s) ∧ ∀ s,R s → N c s) : CallVC X c f args N := by
  intro ρ σ a w hr vals ha
  obtain ⟨R,hc,hN⟩ := h ρ σ a w hr vals ha
  refine hc.mono ?_
  rintro e w' ⟨v,s,rfl,hb,hd,hs⟩
  exact ⟨v,c,ρ,σ,s,rfl,hr.below hb,hd,hN s hs⟩
end
def BoundIs (v : Option Value) (dflt n : Nat) : Prop := (v = none ∧ n = dflt) ∨ ∃ kk,v = some (.int kk n)
theorem run_sliceSl {P : Program} (w : World) {t e : TypeId} {sz : Nat} (hu : P.underlying t = some (.slice e)) (hz : ∀ w,(Go.sizeOf e).run P w = .ok sz w) (a : Option Addr) (n k : Nat) (lo hi : Option Value) (l h : Nat)
    (hlo : BoundIs lo 0 l) (hhi : BoundIs hi n h) (h1 : l ≤ h) (h2 : h ≤ k) :
    (Instr.sliceAt t (.slice a n k) lo hi none).run P w = .ok (.slice (if k = l then a else a.map (·.add (l * sz))) (h - l) (k - l)) w := by
  have hb : ∀ (kk : IntKind) (x y : Nat) (code : BoundsCode),x ≤ y → (Instr.sliceBound (.int kk x) y code).run P w = .ok x w := fun kk x y code hxy => by
    simp [Instr.sliceBound,asIntOf,hxy]
  rcases hlo with ⟨rfl,rfl⟩ | ⟨k1,rfl⟩ <;> rcases hhi with ⟨rfl,rfl⟩ | ⟨k2,rfl⟩ <;>
    simp [Instr.sliceAt,Instr.slice,Instr.sliceBounds,run_underlying hu,hz,hb _ _ _ _ h1,hb _ _ _ _ h2,Result.andThen]
section
variable {X : Ctx} {c : Cfg} {N : Cfg → Prop} {d : Option Tmp} {ty : TypeId} {pos : String} {af : Array Edge} {g : Option (Nat × Bool)}
theorem optI_bound {ρ : List (List Nat)} {σ : List Value} {a : Act} {w : World} (hr : Rel X c ρ σ a w) {x : Option Operand} {l : Option Int} {n : Nat} (h : optI c x = some l) (h0 : 0 ≤ l.getD n) : BoundIs (x.map a.eval) n (l.getD n).toNat := by
  cases x with
  | none => simp [optI] at h;subst h;exact .inl ⟨rfl,by simp⟩
  | some y =>
    obtain ⟨m,rfl⟩ : ∃ m,l = some m := by
      unfold optI optJ at h;simp only at h
      split at h
      · exact ⟨_,(Option.some.inj h).symm⟩
      · simp at h
    obtain ⟨k,e⟩ := optI_spec hr h
    refine .inr ⟨k,?_⟩
    simp only [Option.getD_some] at h0 ⊢
    simp [e,Int.toNat_of_nonneg h0]
def slOff (k off sz : Nat) : Option Int → Nat
  | none => off
  | some l => if k = l.toNat then off else off + l.toNat * sz
theorem slOff_eq (k off sz : Nat) (l : Option Int) : slOff k off sz l = if k = (l.getD 0).toNat then off else off + (l.getD 0).toNat * sz := by
  cases l with
  | none => simp [slOff]
  | some l => rfl
theorem PO.sliceSl {t e : TypeId} {x : Operand} {lo hi : Option Operand} {j off n k sz : Nat} {l h : Option Int} (hx : c.ev x = .one (.c (.sl j off n k))) (ht : elemSz X.P t = some (e,sz))
    (hl : optI c lo = some l) (hh : optI c hi = some h) (h0 : 0 ≤ l.getD 0) (h1 : l.getD 0 ≤ h.getD n) (h2 : h.getD n ≤ k) :
    PO X ⟨d,.slice t x lo hi none,ty,pos,af,g⟩ c (.one (.c (.sl j (slOff k off sz l) ((h.getD n).toNat - (l.getD 0).toNat) (k - (l.getD 0).toNat)))) := fun ρ σ a w hr => by
  rw [slOff_eq]
  have e1 := hr.ev x
  rw [hx] at e1
  obtain ⟨b,hb,e1⟩ := e1
  have hlo := optI_bound (n := 0) hr hl (by simpa using h0)
  have hhi := optI_bound (n := n) hr hh (by omega)
  unfold elemSz at ht
  split at ht
  · rename_i e' hu
    cases hz : szOf X.P e' with
    | none => simp [hz] at ht
    | some r =>
      simp [hz] at ht
      obtain ⟨rfl,rfl⟩ := ht
      have hrun := run_sliceSl (P := X.P) w hu (sizeOf_run hz) (some ⟨b,off,none⟩) n k _ _ _ _ hlo hhi (by simp;omega) (by omega)
      refine ⟨_,?_,b,hb,rfl⟩
      simp only [execOp,e1,Option.map_none,Sem.run_bind]
      rw [hrun]
      simp only [Result.andThen,Sem.run_pure]
      congr 3
      split
      · rename_i hk;simp at hk;simp [hk]
      · rename_i hk;simp at hk;simp [hk,add_add]
  · simp at ht
theorem PO.sliceRow {t e e' : TypeId} {x : Operand} {lo hi : Option Operand} {i n sz sz' : Nat} {xs : List Value} {l h : Option Int} (hx : c.ev x = .one (.c (.row i))) (hi0 : c.loc[i]? = some (.row e' sz' n xs)) (ht : elemSz X.P t = some (e,sz))
    (hl : optI c lo = some l) (hh : optI c hi = some h) (h0 : 0 ≤ l.getD 0) (h1 : l.getD 0 ≤ h.getD n) (h2 : h.getD n ≤ n) :
    PO X ⟨d,.slice t x lo hi none,ty,pos,af,g⟩ c (.one (.c .dead)) := fun ρ σ a w hr => by
  have e1 := hr.ev x
  rw [hx] at e1
  have e1 : σ[i]? = some (a.eval x) := e1
  obtain ⟨fp,hfp⟩ := hr.locAt hi0
  have hd := (hr.loc i _ fp _ hi0 hfp e1).1
  have hlo := optI_bound (n := 0) hr hl (by simpa using h0)
  have hhi := optI_bound (n := n) hr hh (by omega)
  unfold elemSz at ht
  split at ht
  · rename_i e'' hu
    cases hz : szOf X.P e'' with
    | none => simp [hz] at ht
    | some r =>
      simp [hz] at ht
      obtain ⟨rfl,rfl⟩ := ht
      rcases hd.2 with ⟨e3,rfl⟩ | ⟨gg,cap,cur,e3,_,_,hnc,_⟩
      · have hrun := run_sliceSl (P := X.P) w hu (sizeOf_run hz) none 0 0 _ _ _ _ hlo hhi (by simp;omega) (by omega)
        exact ⟨_,by simp only [execOp,e3,Option.map_none,Sem.run_bind];rw [hrun];rfl,trivial⟩
      · have hrun := run_sliceSl (P := X.P) w hu (sizeOf_run hz) (some ⟨gg,0,none⟩) n cap _ _ _ _ hlo hhi (by simp;omega) (by omega)
        exact ⟨_,by simp only [execOp,e3,Option.map_none,Sem.run_bind];rw [hrun];rfl,trivial⟩
  · simp at ht
theorem PO.nilCheckRi {x : Operand} {i k : Nat} (hx : c.ev x = .one (.c (.ri i k))) : PO X ⟨d,.nilCheck x,ty,pos,af,g⟩ c (.one (.c (.ri i k))) := fun ρ σ a w hr => by
  have e := hr.ev x
  rw [hx] at e
  obtain ⟨ad,n,m,hs,e⟩ := e
  exact ⟨.pointer (some (ad.add k)),by simp [execOp,e],⟨ad,n,m,hs,rfl⟩⟩
end
def bif2 (b : Bool) (A B : Prop) : Prop := (b = true → A) ∧ (b = false → B)
def elemInf (P : Program) (t : TypeId) : Option (TypeId × Nat × Nat × Value) :=
  match P.underlying t with
  | some (.slice e) => (P.info? e).bind fun i => i.zero.bind fun z => if z.cells.size = i.size ∧ 0 < i.size then some (e,i.size,i.bytes,z) else none
  | _ => none
theorem elemInf_spec {P : Program} {t e sz by_ : Nat} {z : Value} (h : elemInf P t = some (e,sz,by_,z)) :
    P.underlying t = some (.slice e) ∧ ∃ i,P.info? e = some i ∧ i.zero = some z ∧ i.size = sz ∧ i.bytes = by_ ∧ z.cells.size = sz ∧ 0 < sz := by
  unfold elemInf at h
  split at h
  · rename_i e' hu
    cases hi : P.info? e' with
    | none => simp [hi] at h
    | some i =>
      cases hz : i.zero with
      | none => simp [hi,hz] at h
      | some zv =>
        simp [hi,hz] at h
        obtain ⟨⟨h1,h0⟩,rfl,rfl,rfl,rfl⟩ := h
        exact ⟨hu,i,hi,hz,rfl,rfl,h1,h0⟩
  · simp at h
def s1Of : Value → S1
  | .agg cs => .agg (cs.toList.map .v)
  | v => .c (.v v)
theorem s1Of_spec (σ : List Value) (v : Value) : D1 σ (s1Of v) v := by
  unfold s1Of
  split
  · rename_i cs;exact ⟨cs.toList,by simp,all2_vals _⟩
  · rfl
def mapInf (P : Program) (t : TypeId) : Option (TypeDesc × Value) :=
  match P.underlying t with
  | some (.map k e) => (P.underlying k).bind fun kd => (P.info? e).bind fun i => i.zero.map fun z => (kd,z)
  | _ => none
theorem mapInf_spec {P : Program} {t : TypeId} {kd : TypeDesc} {z : Value} (h : mapInf P t = some (kd,z)) : ∃ k e i,P.underlying t = some (.map k e) ∧ P.underlying k = some kd ∧ P.info? e = some i ∧ i.zero = some z := by
  unfold mapInf at h
  split at h
  · rename_i k e hu
    cases hk : P.underlying k with
    | none => simp [hk] at h
    | some kd' =>
      cases hi : P.info? e with
      | none => simp [hk,hi] at h
      | some i =>
        cases hz : i.zero with
        | none => simp [hk,hi,hz] at h
        | some zv =>
          simp [hk,hi,hz] at h
          obtain ⟨rfl,rfl⟩ := h
          exact ⟨k,e,i,hu,hk,hi,hz⟩
  · simp at h
def isStrT (P : Program) (t : TypeId) : Bool := match P.underlying t with | some .string => true | _ => false
def isBytesT (P : Program) (t : TypeId) : Bool := match P.underlying t with | some (.slice e) => (match P.underlying e with | some (.int .u8) => true | _ => false) | _ => false
section
variable (X : Ctx) (d : Option Tmp) (N : Cfg → Prop) (c : Cfg)
def idxK (s i : SV) (b : Bool) (N : Value → Prop) : Prop := match s,i,b with
  | .one (.c (.v (.string b))),.one (.c (.v (.int k n))),true => 0 ≤ n ∧ n < b.size ∧ N (.int .u8 (bget b n.toNat).toNat)
  | _,_,_ => False
def slcRow (o : Option LO) (l h : Option Int) (N : SV → Prop) : Prop := match o with
  | some (.row _ _ n _) => 0 ≤ l.getD 0 ∧ l.getD 0 ≤ h.getD n ∧ h.getD n ≤ n ∧ N (.one (.c .dead))
  | _ => False
def slcK (s : SV) (b : Bool) (es : Option (TypeId × Nat)) (l h : Option (Option Int)) (N : SV → Prop) : Prop := match s,b,es,l,h with
  | .one (.c (.v (.string b))),true,_,some l,some h => 0 ≤ l.getD 0 ∧ l.getD 0 ≤ h.getD b.size ∧ h.getD b.size ≤ b.size ∧ N (vv (.string (b.extract (l.getD 0).toNat (h.getD b.size).toNat)))
  | .one (.c (.sl j off n k)),_,some (_,sz),some l,some h => 0 ≤ l.getD 0 ∧ l.getD 0 ≤ h.getD n ∧ h.getD n ≤ k ∧ N (.one (.c (.sl j (slOff k off sz l) ((h.getD n).toNat - (l.getD 0).toNat) (k - (l.getD 0).toNat))))
  | .one (.c (.row i)),_,some _,some l,some h => slcRow (c.loc[i]?) l h N
  | _,_,_,_,_ => False
def mslK (x y : SV) (ei : Option (TypeId × Nat × Nat × Value)) : Prop := match x,y,ei with
  | .one (.c (.v (.int _ l))),.one (.c (.v (.int _ n))),some (e,sz,by_,z) => l = 0 ∧ 0 ≤ n ∧ sz * n.toNat ≤ 16777216 ∧ by_ * n.toNat ≤ 16777216 ∧ nxt X d N { c with loc := c.loc ++ [.row e sz 0 []] } (.one (.c (.row c.loc.length)))
  | _,_,_ => False
def mslE (s : SV) (a b : Prop) : Prop := match s with
  | .one (.c (.v (.int _ l))) => if l = 0 then a else b
  | _ => a
def appEnd (c : Cfg) (i e sz n m : Nat) (by_ : Nat) (xs news : List Value) : Prop :=
  (n + m) * (by_ + 1) ≤ 140737488355328 ∧ nxt X d N { c with loc := c.loc.set i .gone ++ [.row e sz (n + m) (xs ++ news)] } (.one (.c (.row c.loc.length)))
def appNews (m sz : Nat) (news : Option (List Value)) (N : List Value → Prop) : Prop := match news with
  | some news => news.length = m * sz ∧ (news.all fun u => u.oneCell') = true ∧ N news
  | none => False
def appLit (o : Option LO) (m sz : Nat) (N : List Value → Prop) : Prop := match o with
  | some (.cells l _) => appNews m sz (vals? l) N
  | _ => False
def appY (c : Cfg) (y : SV) (z : Value) (tu b : Bool) (i e sz by_ n : Nat) (xs : List Value) : Prop := match y with
  | .one (.c (.sl j 0 m _)) => tu = true ∧ appLit (c.loc[j]?) m sz (fun news => appEnd X d N c i e sz n m by_ xs news)
  | .one (.c (.v (.string s))) => b = true ∧ z = .int .u8 0 ∧ sz = 1 ∧ by_ = 1 ∧ appEnd X d N c i e sz n s.size by_ xs (bcells s.data.toList)
  | _ => False
def appRow (c : Cfg) (o : Option LO) (y : SV) (tu b : Bool) (i : Nat) (ei : Option (TypeId × Nat × Nat × Value)) : Prop := match o,ei with
  | some (.row e' sz' n xs),some (e,sz,by_,z) => e' = e ∧ sz' = sz ∧ appY X d N c y z tu b i e sz by_ n xs
  | _,_ => False
def appNil2 (c : Cfg) (i : Nat) (y : Operand) (tu b : Bool) (e sz by_ : Nat) (z : Value) : Prop := appY X d N c (c.ev y) z tu b i e sz by_ 0 []
def appNil (c : Cfg) (x y : Operand) (tu b : Bool) (ei : Option (TypeId × Nat × Nat × Value)) : Prop := match x,ei with
  | .tmp t,some (e,sz,by_,z) => appNil2 X d N { env := (t,.one (.c (.row c.loc.length))) :: c.env,loc := c.loc ++ [.row e sz 0 []] } c.loc.length y tu b e sz by_ z
  | _,_ => False
def appK (s : SV) (x y : Operand) (tu b : Bool) (ei : Option (TypeId × Nat × Nat × Value)) (els : Prop) : Prop := match s with
  | .one (.c (.row i)) => appRow X d N c (c.loc[i]?) (c.ev y) tu b i ei
  | .one (.c (.v (.slice none 0 0))) => appNil X d N c x y tu b ei
  | _ => els
def keyEq : Value → Value → Bool
  | .int _ a,.int _ b => a == b
  | .string a,.string b => a.toList == b.toList
  | _,_ => false
def lkS (k : Value) (N : Option S1 → Prop) : List (Value × S1) → Prop
  | [] => N none
  | p :: es => bif2 (keyEq k p.1) (N (some p.2)) (lkS k N es)
def insMap (o : Option LO) (i : Nat) (k x : SV) (mi : Option (TypeDesc × Value)) : Prop := match o,k,x,mi with
  | some (.map es),.one (.c (.v kv)),.one s,some (kd,_) => KeyOf kd kv = true ∧ (es.all fun p => KeyOf kd p.1) = true ∧ lkS kv (fun r => r.isNone = true ∧ N { c with loc := c.loc.set i (.map (es ++ [(kv,s)])) }) es
  | _,_,_,_ => False
def insK (m k x : SV) (mi : Option (TypeDesc × Value)) : Prop := match m with
  | .one (.c (.row i)) => insMap N c (c.loc[i]?) i k x mi
  | _ => False
def lkEnd (ok : Bool) (z : Value) (r : Option S1) (N : SV → Prop) : Prop := match ok with
  | true => N (.tup [r.getD (s1Of z),.c (.v (.bool r.isSome))])
  | false => N (.one (r.getD (s1Of z)))
def lkMap (o : Option LO) (k : SV) (mi : Option (TypeDesc × Value)) (ok : Bool) (N : SV → Prop) : Prop := match o,k,mi with
  | some (.map es),.one (.c (.v kv)),some (kd,z) => KeyOf kd kv = true ∧ (es.all fun p => KeyOf kd p.1) = true ∧ lkS kv (fun r => lkEnd ok z r N) es
  | _,_,_ => False
def lkK (m k : SV) (mi : Option (TypeDesc × Value)) (ok : Bool) (N : SV → Prop) : Prop := match m with
  | .one (.c (.row i)) => lkMap (c.loc[i]?) k mi ok N
  | _ => False
def ixRow (o : Option LO) (r : Nat) (j : Int) (es : Option (TypeId × Nat)) (N : SV → Prop) : Prop := match o,es with
  | some (.row _ sz n _),some (_,sz') => sz = sz' ∧ 0 ≤ j ∧ j < n ∧ N (.one (.c (.ri r (j.toNat * sz))))
  | _,_ => False
def ixK (x i : SV) (es : Option (TypeId × Nat)) (ai : Option (Nat × Nat)) (N : SV → Prop) : Prop := match x,i with
  | .one (.c (.row r)),.one (.c (.v (.int _ j))) => ixRow (c.loc[r]?) r j es N
  | .one (.c (.v (.slice (some ad) n _))),.one (.c (.v (.int _ j))) => (match es with | some (_,sz) => 0 ≤ j ∧ j < n ∧ N (vv (.pointer (some (ad.add (j.toNat * sz))))) | none => False)
  | .one (.c (.sl q off n _)),.one (.c (.v (.int _ j))) => (match es with | some (_,sz) => 0 ≤ j ∧ j < n ∧ N (.one (.c (.loc q (off + j.toNat * sz)))) | none => False)
  | .one (.c (.loc q off)),.one (.c (.v (.int _ j))) => (match ai with | some (n,sz) => 0 ≤ j ∧ j < (n : Int) ∧ N (.one (.c (.loc q (off + j.toNat * sz)))) | none => False)
  | _,_ => False
def lenRowK (o : Option LO) (N : Value → Prop) : Prop := match o with
  | some (.row _ _ n _) => N (.int .i64 n)
  | _ => False
def minK (x y : SV) (N : Value → Prop) : Prop := match x,y with
  | .one (.c (.v (.int k n))),.one (.c (.v (.int _ m))) => N (.int k (if m < n then m else n))
  | _,_ => False
def ldRi (o : Option LO) (k : Nat) (ag : Option Bool) (z : Option Nat) (N : SV → Prop) : Prop := match o,ag,z with
  | some (.row _ _ _ xs),some false,_ => ∃ v,xs[k]? = some v ∧ N (vv v)
  | some (.row _ _ _ xs),some true,some n => ∃ vs : List Value,vs.length = n ∧ (xs.drop k).take n = vs ∧ N (.one (.agg (vs.map .v)))
  | _,_,_ => False
def ldV (ad : Addr) (ag : Option Bool) (z : Option Nat) (N : SV → Prop) : Prop := ad.block ∉ X.own ∧ match ag,z with
  | some false,_ => ∃ v,X.wi.cell? ad = some v ∧ N (vv v)
  | some true,some n => ∃ vs : List Value,vs.length = n ∧ (∀ j v,vs[j]? = some v → X.wi.cell? (ad.add j) = some v) ∧ N (.one (.agg (vs.map .v)))
  | _,_ => False
def vcLoad2 (t : TypeId) (s : SV) (N : SV → Prop) (els : Prop) : Prop := match s with
  | .one (.c (.ri r k)) => ldRi (c.loc[r]?) k (aggOf X.P t) (szOf X.P t) N
  | .one (.c (.v (.pointer (some ad)))) => ldV X ad (aggOf X.P t) (szOf X.P t) N
  | _ => els
def cvRow (o : Option LO) (b b' : Bool) (N : Value → Prop) : Prop := match o,b,b' with
  | some (.row e sz n xs),true,true => sz = 1 ∧ ∃ l,xs = bcells l ∧ N (.string (B l))
  | _,_,_ => False
def vcConv2 (s : SV) (b b' : Bool) (N : Value → Prop) (els : Prop) : Prop := match s with
  | .one (.c (.row i)) => cvRow (c.loc[i]?) b b' N
  | _ => els
end
def fldK (s : SV) (i : Option (Nat × Bool × Nat)) (N : SV → Prop) : Prop := match fldS s i with
  | some r => N r
  | none => False
def vcOp2 (X : Ctx) (o : Oper) (c : Cfg) (N : Cfg → Prop) : Prop :=
  match o with
  | ⟨d,op,ty,pos,af,g⟩ =>
    match op with
    | .index t x i => idxK (c.ev x) (c.ev i) (isStrT X.P t) (fun r => nxt X d N c (vv r))
    | .slice t x lo hi none => slcK c (c.ev x) (isStrT X.P t) (elemSz X.P t) (optI c lo) (optI c hi) (nxt X d N c)
    | .makeSlice t x y => mslE (c.ev x) (mslK X d N c (c.ev x) (c.ev y) (elemInf X.P t)) (VO X ⟨d,.makeSlice t x y,ty,pos,af,g⟩ c N)
    | .makeMap t none => nxt X d N { c with loc := c.loc ++ [.map []] } (.one (.c (.row c.loc.length)))
    | .insert t m k x => d = none ∧ insK N c (c.ev m) (c.ev k) (c.ev x) (mapInf X.P t)
    | .lookup t m k ok => lkK c (c.ev m) (c.ev k) (mapInf X.P t) ok (fun s => nxt X d N c s)
    | .field t x f => fldK (c.ev x) (fldInf X.P t f) (fun s => nxt X d N c s)
    | .indexAddr t x i => ixK c (c.ev x) (c.ev i) (elemSz X.P t) (arrInf X.P t) (fun s => nxt X d N c s)
    | .call { callee := .builtin .append,args := ⟨[x,y]⟩,argTypes := ⟨[t,u]⟩ } => appK X d N c (c.ev x) x y (t == u) (isStrT X.P u) (elemInf X.P t) (VO X ⟨d,.call { callee := .builtin .append,args := #[x,y],argTypes := #[t,u] },ty,pos,af,g⟩ c N)
    | .call { callee := .builtin .min,args := ⟨[x,y]⟩,argTypes := ts } => minK (c.ev x) (c.ev y) (fun r => nxt X d N c (vv r))
    | _ => VO X ⟨d,op,ty,pos,af,g⟩ c N
section
variable {X : Ctx} {c : Cfg} {N : Cfg → Prop} {d : Option Tmp} {ty : TypeId} {pos : String} {af : Array Edge} {g : Option (Nat × Bool)}
theorem mslE_or {s : SV} {a b : Prop} (h : mslE s a b) : a ∨ b := by
  unfold mslE at h
  split at h
  · split at h
    · exact .inl h
    · exact .inr h
  · exact .inl h
theorem isStrT_spec {P : Program} {t : TypeId} (h : isStrT P t = true) : P.underlying t = some .string := by
  unfold isStrT at h
  split at h
  · assumption
  · simp at h
theorem isBytesT_spec {P : Program} {t : TypeId} (h : isBytesT P t = true) : ∃ e,P.underlying t = some (.slice e) ∧ P.underlying e = some (.int .u8) := by
  unfold isBytesT at h
  split at h
  · rename_i e he
    split at h
    · rename_i h2;exact ⟨e,he,h2⟩
    · simp at h
  · simp at h
theorem keyEq_iff {kd : TypeDesc} {a b : Value} (ha : KeyOf kd a = true) (hb : KeyOf kd b = true) : keyEq a b = true ↔ a = b := by
  unfold KeyOf at ha hb
  split at ha
  · rename_i k k' n
    simp at ha;subst ha
    cases b <;> simp at hb
    subst hb
    simp [keyEq]
  · rename_i s
    cases b <;> simp at hb
    rename_i s'
    simp only [keyEq,beq_iff_eq]
    constructor
    · intro h
      rw [ByteArray.toList_eq,ByteArray.toList_eq] at h
      congr 1
      exact ByteArray.ext (Array.toList_inj.1 h)
    · intro h;cases h;rfl
  · simp at ha
theorem lkS_spec {kd : TypeDesc} {k : Value} {N : Option S1 → Prop} (hk : KeyOf kd k = true) : ∀ {es : List (Value × S1)},(es.all fun p => KeyOf kd p.1) = true → lkS k N es → ∃ r,Look k es r ∧ N r
  | [],_,h => ⟨none,.nil,h⟩
  | p :: es,hks,h => by
    simp only [List.all_cons,Bool.and_eq_true] at hks
    simp only [lkS] at h
    cases hb : keyEq k p.1 with
    | true => exact ⟨_,.hit ((keyEq_iff hk hks.1).1 hb),h.1 hb⟩
    | false =>
      obtain ⟨r,h1,h2⟩ := lkS_spec hk hks.2 (h.2 hb)
      exact ⟨r,.miss (fun e => by have := (keyEq_iff hk hks.1).2 e;rw [hb] at this;cases this) h1,h2⟩
theorem appEnd_le {n m by_ : Nat} (h : (n + m) * (by_ + 1) ≤ 140737488355328) : n + m ≤ maxLen ∧ (n + m) * by_ ≤ 140737488355328 ∧ n + m ≤ 140737488355328 := by
  rw [Nat.mul_add] at h
  simp only [maxLen]
  omega
theorem VO.of_app {x y : Operand} {t u i n e sz by_ : Nat} {xs : List Value} {z : Value} (hx : c.ev x = .one (.c (.row i))) (hi : c.loc[i]? = some (.row e sz n xs)) (he : elemInf X.P t = some (e,sz,by_,z))
    (h : appY X d N c (c.ev y) z (t == u) (isStrT X.P u) i e sz by_ n xs) : VO X ⟨d,.call { callee := .builtin .append,args := #[x,y],argTypes := #[t,u] },ty,pos,af,g⟩ c N := by
  obtain ⟨hu,ti,hti,hz,hsz,hby,hzs,h0⟩ := elemInf_spec he
  unfold appY at h
  split at h
  · rename_i j m k hy
    obtain ⟨htu,h⟩ := h
    obtain rfl : t = u := by simpa using htu
    unfold appLit at h
    split at h
    · rename_i l t' hl
      unfold appNews at h
      split at h
      · rename_i news hv
        obtain ⟨h1,h2,h3,h4⟩ := h
        obtain ⟨b1,b2,_⟩ := appEnd_le h3
        exact .append hx hy hu hti hz hsz hzs h0 hi hl hv h1 (by simpa using h2) b1 (by rw [hby];exact b2) h4
      · exact h.elim
    · exact h.elim
  · rename_i s hy
    obtain ⟨hb,rfl,rfl,rfl,h3,h4⟩ := h
    obtain ⟨b1,b2,b3⟩ := appEnd_le h3
    exact .appendStr hx hy hu (isStrT_spec hb) hti hz hsz hby hi b1 b3 h4
  · exact h.elim
theorem VO.of_nil {o : Oper} {t : Tmp} {e sz : Nat} (hx : c.ev (.tmp t) = vv (.slice none 0 0)) (hl : ∃ s,c.env.lookup t = some s)
    (h : VO X o { env := (t,.one (.c (.row c.loc.length))) :: c.env,loc := c.loc ++ [.row e sz 0 []] } N) : VO X o c N := fun ρ σ a w hr => by
  refine h (ρ ++ [[]]) (σ ++ [Value.slice none 0 0]) a w ?_
  have h1 := hr.nilRow e sz
  refine ⟨fun t' s' he => ?_,h1.len,h1.lenS,h1.loc,h1.inj,h1.lt,h1.fresh,h1.low,h1.defers,h1.size,h1.one,h1.pin⟩
  simp only [List.lookup_cons] at he
  by_cases e : t' = t
  · subst e
    simp at he;subst he
    obtain ⟨s,hs⟩ := hl
    obtain ⟨v,hv,hd⟩ := hr.env t' s hs
    simp only [Cfg.ev,Cfg.get,hs,Option.getD_some] at hx
    subst hx
    obtain rfl : v = .slice none 0 0 := hd
    refine ⟨_,hv,?_⟩
    show (σ ++ [_])[c.loc.length]? = _
    rw [← hr.lenS];simp
  · have hb : (t' == t) = false := by simpa using e
    rw [hb] at he
    exact h1.env t' s' he
theorem vcOp2_sound {o : Oper} (h : vcOp2 X o c N) : VO X o c N := by
  obtain ⟨d,op,ty,pos,af,g⟩ := o
  unfold vcOp2 at h
  simp only at h
  split at h
  · unfold idxK at h
    split at h
    · rename_i h1 h2 h3;exact .of_po (.indexS h1 h2 (isStrT_spec h3) h.1 h.2.1) h.2.2
    · exact h.elim
  · unfold slcK at h
    split at h
    · rename_i h1 h2 h3 h4;exact .of_po (.sliceS h1 (isStrT_spec h2) h3 h4 h.1 h.2.1 h.2.2.1) h.2.2.2
    · rename_i h1 h2 h3 h4;exact .of_po (.sliceSl h1 h2 h3 h4 h.1 h.2.1 h.2.2.1) h.2.2.2
    · rename_i h1 h2 h3 h4
      unfold slcRow at h
      split at h
      · rename_i h5;exact .of_po (.sliceRow h1 h5 h2 h3 h4 h.1 h.2.1 h.2.2.1) h.2.2.2
      · exact h.elim
    · exact h.elim
  · rcases mslE_or h with h | h
    · unfold mslK at h
      split at h
      · rename_i h1 h2 h3
        obtain ⟨rfl,h4,h5,h6,h7⟩ := h
        obtain ⟨hu,ti,hti,hz,rfl,rfl,hzs,h0⟩ := elemInf_spec h3
        refine .makeSlice h1 h2 hu hti hz h4 h5 (by omega) ?_ h7
        have h8 := Nat.le_trans (Nat.le_mul_of_pos_left _ h0) h5
        simp only [maxLen]
        omega
      · exact h.elim
    · exact h
  · exact .makeMap h
  · obtain ⟨rfl,h⟩ := h
    unfold insK at h
    split at h
    · rename_i hm
      unfold insMap at h
      split at h
      · rename_i hi hk hx hmi
        obtain ⟨k',e',i',q1,q2,q3,q4⟩ := mapInf_spec hmi
        obtain ⟨h1,h2,h3⟩ := h
        obtain ⟨r,hl,hr,hN⟩ := lkS_spec h1 h2 h3
        cases r with
        | some _ => simp at hr
        | none => exact .insert hm hi hk hx q1 q2 h1 h2 hl hN
      · exact h.elim
    · exact h.elim
  · unfold lkK at h
    split at h
    · rename_i hm
      unfold lkMap at h
      split at h
      · rename_i hi hk hmi
        obtain ⟨k',e',i',q1,q2,q3,q4⟩ := mapInf_spec hmi
        obtain ⟨h1,h2,h3⟩ := h
        obtain ⟨r,hl,hN⟩ := lkS_spec h1 h2 h3
        unfold lkEnd at hN
        split at hN
        · exact .of_po (.lookup2 hm hi hk q1 q2 h1 h2 hl q3 q4 (fun σ => s1Of_spec σ _) rfl) hN
        · exact .of_po (.lookup1 hm hi hk q1 q2 h1 h2 hl q3 q4 (fun σ => s1Of_spec σ _) rfl) hN
      · exact h.elim
    · exact h.elim
  · unfold fldK at h
    split at h
    · rename_i hs;exact .of_po (.field hs) h
    · exact h.elim
  · unfold ixK at h
    split at h
    · rename_i hx hi
      unfold ixRow at h
      split at h
      · rename_i h1 h2
        obtain ⟨rfl,h3,h4,h5⟩ := h
        exact .of_po (.indexRow hx h1 hi h2 h3 h4) h5
      · exact h.elim
    · rename_i hx hi
      split at h
      · rename_i h2
        exact .of_po (.indexV hx hi h2 h.1 h.2.1) h.2.2
      · exact h.elim
    · rename_i hx hi
      split at h
      · rename_i h2
        exact .of_po (.indexSl hx hi h2 h.1 h.2.1) h.2.2
      · exact h.elim
    · rename_i hx hi
      split at h
      · rename_i h2
        exact .of_po (.indexArr hx hi h2 h.1 h.2.1) h.2.2
      · exact h.elim
    · exact h.elim
  · unfold appK at h
    split at h
    · rename_i hx
      unfold appRow at h
      split at h
      · rename_i hi he
        obtain ⟨rfl,rfl,h⟩ := h
        exact .of_app hx hi he h
      · exact h.elim
    · rename_i hx
      unfold appNil at h
      split at h
      · rename_i he
        refine .of_nil hx ?_ (.of_app (i := c.loc.length) ?_ ?_ he h)
        · simp only [Cfg.ev,Cfg.get] at hx
          refine Option.ne_none_iff_exists'.1 (fun hq => ?_)
          rw [hq] at hx
          simp at hx
        · simp [Cfg.ev,Cfg.get]
        · simp
      · exact h.elim
    · exact h
  · unfold minK at h
    split at h
    · rename_i h1 h2;exact .of_po (.min2 h1 h2) h
    · exact h.elim
  · exact h
theorem vcLoad2_sound {t : TypeId} {x : Operand} (h : vcLoad2 X c t (c.ev x) (nxt X d N c) (VO X ⟨d,.load t x,ty,pos,af,g⟩ c N)) : VO X ⟨d,.load t x,ty,pos,af,g⟩ c N := by
  unfold vcLoad2 at h
  split at h
  · rename_i hx
    unfold ldRi at h
    split at h
    · rename_i hl ha
      obtain ⟨v,h1,h2⟩ := h
      exact .of_po (.loadRi hx hl ha h1) h2
    · rename_i hl ha hz
      obtain ⟨vs,rfl,h1,h2⟩ := h
      exact .of_po (.loadRiN hx hl ha hz h1) h2
    · exact h.elim
  · rename_i hx
    obtain ⟨ho,h⟩ := h
    split at h
    · rename_i ha
      obtain ⟨v,h1,h2⟩ := h
      exact .of_po (.loadV hx ha h1 ho) h2
    · rename_i ha hz
      obtain ⟨vs,rfl,h1,h2⟩ := h
      exact .of_po (.loadVN hx ha hz h1 ho) h2
    · exact h.elim
  · exact h
theorem vcConv2_sound {src dst : TypeId} {x : Operand} (h : vcConv2 c (c.ev x) (isBytesT X.P src) (isStrT X.P dst) (fun r => nxt X d N c (vv r)) (VO X ⟨d,.convert src dst x,ty,pos,af,g⟩ c N)) : VO X ⟨d,.convert src dst x,ty,pos,af,g⟩ c N := by
  unfold vcConv2 at h
  split at h
  · rename_i hx
    unfold cvRow at h
    split at h
    · rename_i hl hb hb'
      obtain ⟨rfl,l,rfl,h⟩ := h
      obtain ⟨e,h1,h2⟩ := isBytesT_spec hb
      exact .of_po (.rowString hx hl h1 h2 (isStrT_spec hb')) h
    · exact h.elim
  · exact h
end
def zerosS (zs : List Value) (n sz : Nat) : List SC := (List.range (n * sz)).map fun i => .v (zs.toArray[i % sz]!)
def placesS (n sz : Nat) : List (Nat × Nat) := (List.range n).map fun i => (i * sz,sz)
theorem bifT (A B : Prop) : bif2 true A B = A := by simp [bif2]
theorem bifF (A B : Prop) : bif2 false A B = B := by simp [bif2]
def gif (b pol : Bool) (A B : Prop) : Prop := (b = pol → A) ∧ (b = (!pol) → B)
theorem gifT (b : Bool) (A B : Prop) : gif b true A B = bif2 b A B := rfl
theorem gifF (b : Bool) (A B : Prop) : gif b false A B = bif2 b B A := by simp [gif,bif2,and_comm]
def pickS (X : Ctx) (d : Option Tmp) (N : Cfg → Prop) (c : Cfg) (s : SV) (x y : Operand) : Prop := match s with
  | .one (.c (.v (.bool b))) => bif2 b (nxt X d N c (c.ev x)) (nxt X d N c (c.ev y))
  | _ => False
def allocS (X : Ctx) (d : Option Tmp) (N : Cfg → Prop) (c : Cfg) (t : TypeId) (z : Option (List Value)) : Prop := match z with
  | some zs => nxt X d N { c with loc := c.loc ++ [.cells (zs.map .v) t] } (.one (.c (.loc c.loc.length 0)))
  | none => False
def boxS (X : Ctx) (d : Option Tmp) (N : Cfg → Prop) (c : Cfg) (t : TypeId) (s : SV) : Prop := match s with
  | .one s => s.One ∧ nxt X d N { c with loc := c.loc ++ [.cells s.cells t] } (.one (.c (.loc c.loc.length 0)))
  | _ => False
def load1S (s : Option SC) (N : SV → Prop) : Prop := match s with | some s => N (.one (.c s)) | none => False
def loadA (o : Option LO) (ag : Option Bool) (z : Option Nat) (off : Nat) (N : SV → Prop) : Prop := match o with
  | some (.cells l _) => (match ag with
    | some false => load1S (l[off]?) N
    | some true => (match z with | some n => off + n ≤ l.length ∧ N (.one (.agg ((l.drop off).take n))) | none => False)
    | none => False)
  | _ => False
def storeA (o : Option LO) (z : Option Nat) (i off : Nat) (s : S1) (c : Cfg) (N : Cfg → Prop) : Prop := match o with
  | some (.cells l t') => (match z with
    | some n => s.One ∧ s.cells.length = n ∧ off + n ≤ l.length ∧ N { c with loc := c.loc.set i (.cells (splice l off s.cells) t') }
    | none => False)
  | _ => False
def storeR (o : Option LO) (z : Option Nat) (i k : Nat) (s : S1) (vs : Option (List Value)) (c : Cfg) (N : Cfg → Prop) : Prop := match o,z,vs with
  | some (.row e sz n xs),some m,some vs => s.One ∧ vs.length = m ∧ k + m ≤ xs.length ∧ N { c with loc := c.loc.set i (.row e sz n (xs.take k ++ vs ++ xs.drop (k + m))) }
  | _,_,_ => False
def fieldS (X : Ctx) (d : Option Tmp) (N : Cfg → Prop) (c : Cfg) (s : SV) (o : Option Nat) : Prop := match s with
  | .one (.c (.loc i off)) => (match o with | some o => nxt X d N c (.one (.c (.loc i (off + o)))) | none => False)
  | .one (.c (.ri i k)) => (match o with | some o => nxt X d N c (.one (.c (.ri i (k + o)))) | none => False)
  | .one (.c (.v (.pointer (some ad)))) => (match o with | some o => nxt X d N c (vv (.pointer (some (ad.add o)))) | none => False)
  | _ => False
def binS (x y : Option Value) (N : Value → Value → Prop) (els : Prop) : Prop := match x,y with | some u,some v => N u v | _,_ => els
def unS (x : Option Value) (N : Value → Prop) : Prop := match x with | some u => N u | none => False
def convS (s : SV) (a b : Option TypeDesc) (N : Value → Prop) (els : Prop) : Prop := match s,a,b with
  | .one (.c (.v (.int k n))),some (.int k1),some (.int k') => k = k1 ∧ N (.int k' (k'.wrap n))
  | _,_,_ => els
def ext1 (X : Ctx) (d : Option Tmp) (N : Cfg → Prop) (c : Cfg) (s : Option S1) : Prop := match s with | some s => nxt X d N c (.one s) | none => False
def extS (X : Ctx) (d : Option Tmp) (N : Cfg → Prop) (c : Cfg) (s : SV) (i : Nat) : Prop := match s with | .tup l => ext1 X d N c (l[i]?) | _ => False
def nilS (s : SV) (N : SV → Prop) (els : Prop) : Prop := match s with | .one (.c (.loc i off)) => N (.one (.c (.loc i off))) | .one (.c (.v (.pointer (some a)))) => N (vv (.pointer (some a))) | .one (.c (.ri i k)) => N (.one (.c (.ri i k))) | _ => els
def partsOne : List (Nat × S1) → Prop
  | [] => True
  | p :: l => p.2.One ∧ partsOne l
def build1 (X : Ctx) (d : Option Tmp) (N : Cfg → Prop) (c : Cfg) (o : Option (List SC)) : Prop := match o with | some out => nxt X d N c (.one (.agg out)) | none => False
def buildS (X : Ctx) (d : Option Tmp) (N : Cfg → Prop) (c : Cfg) (pl : Option (List (Nat × Nat))) (z : Option (List Value)) (ps : Option (List (Nat × S1))) : Prop := match pl,z,ps with
  | some places,some zs,some ps => partsOne ps ∧ build1 X d N c (fillS places (zs.map .v) ps)
  | _,_,_ => False
def bsl2 (X : Ctx) (d : Option Tmp) (N : Cfg → Prop) (c : Cfg) (n e : Nat) (o : Option (List SC)) : Prop := match o with | some out => nxt X d N { c with loc := c.loc ++ [.cells out e] } (.one (.c (.sl c.loc.length 0 n n))) | none => False
def bsl1 (X : Ctx) (d : Option Tmp) (N : Cfg → Prop) (c : Cfg) (n e sz : Nat) (ps : List (Nat × S1)) (z : Option (List Value)) : Prop := match z with
  | some zs => zs.length = sz ∧ n * sz ≤ 16777216 ∧ partsOne ps ∧ bsl2 X d N c n e (fillS (placesS n sz) (zerosS zs n sz) ps)
  | none => False
def bslS (X : Ctx) (d : Option Tmp) (N : Cfg → Prop) (c : Cfg) (n : Nat) (es : Option (TypeId × Nat)) (ps : Option (List (Nat × S1))) : Prop := match es,ps with
  | some (e,sz),some ps => bsl1 X d N c n e sz ps (zeroCells X.P e)
  | _,_ => False
def mkfS (X : Ctx) (d : Option Tmp) (N : Cfg → Prop) (c : Cfg) (f : FuncId) (p q : Option (List SP)) : Prop := match p,q with | some p,some q => nxt X d N c (.one (.c (.clo f p q))) | _,_ => False
def notIface : TypeDesc → Bool
  | .interface _ => false
  | _ => true
def mkiS (X : Ctx) (d : Option Tmp) (N : Cfg → Prop) (c : Cfg) (t : TypeId) (v : Option Value) (u : Option TypeDesc) : Prop := match v,u with
  | some v,some u => notIface u = true ∧ nxt X d N c (vv (.iface t v))
  | _,_ => False
def lenA (s : SV) (u : Option TypeDesc) (N : Value → Prop) : Prop := match s,u with
  | .one (.c (.v (.string b))),some .string => N (.int .i64 b.size)
  | .one (.c (.v (.slice _ n _))),some (.slice _) => N (.int .i64 n)
  | .one (.c (.sl _ _ n _)),some (.slice _) => N (.int .i64 n)
  | _,_ => False
def lenB (c : Cfg) (s : SV) (u : Option TypeDesc) (N : Value → Prop) : Prop := match s with
  | .one (.c (.row i)) => (∃ e,u = some (.slice e)) ∧ lenRowK (c.loc[i]?) N
  | s => lenA s u N
def lkB (b : Bool) (s : SV) (r : Option SV) : Option SV := match b with | true => some s | false => r
def vcLoad (X : Ctx) (t : TypeId) (s : SV) (c : Cfg) (N : SV → Prop) (els : Prop) : Prop :=
  match s with
  | .one (.c (.loc i off)) => loadA (c.loc[i]?) (aggOf X.P t) (szOf X.P t) off N
  | _ => els
def vcStore (X : Ctx) (t : TypeId) (s y : SV) (c : Cfg) (N : Cfg → Prop) (els : Prop) : Prop :=
  match s,y with
  | .one (.c (.loc i off)),.one z => storeA (c.loc[i]?) (szOf X.P t) i off z c N
  | .one (.c (.ri i k)),.one z => storeR (c.loc[i]?) (szOf X.P t) i k z (vals? z.cells) c N
  | _,_ => els
def callIf (b : Bool) (A B : Prop) : Prop := match b with | true => A | false => B
def vcCall (X : Ctx) (fo : SV) (args : List SV) (c : Cfg) (N : Cfg → SV → Prop) (els : Prop) : Prop :=
  match fo with
  | .one (.c (.clo f fst cap)) => callIf (calleeOk X.P f) (CallVC X c f (fst.map SP.sv ++ args ++ cap.map SP.sv) N) els
  | _ => els
def vcOp (X : Ctx) (o : Oper) (c : Cfg) (N : Cfg → Prop) : Prop :=
  match o with
  | ⟨d,op,ty,pos,af,g⟩ =>
    match op with
    | .move x => nxt X d N c (c.ev x)
    | .assign x => nxt X d N c (c.ev x)
    | .pick k x y => pickS X d N c (c.ev k) x y
    | .alloc t => allocS X d N c t (zeroCells X.P t)
    | .box t x => boxS X d N c t (c.ev x)
    | .load t x => vcLoad X t (c.ev x) c (nxt X d N c) (vcLoad2 X c t (c.ev x) (nxt X d N c) (VO X ⟨d,.load t x,ty,pos,af,g⟩ c N))
    | .store t x y => d = none ∧ vcStore X t (c.ev x) (c.ev y) c N (VO X ⟨none,.store t x y,ty,pos,af,g⟩ c N)
    | .fieldAddr t x f => fieldS X d N c (c.ev x) (fieldOff X.P t f)
    | .binOp op t x y t2 => binS (c.ev x).val? (c.ev y).val? (fun u v => binK X.P t op u v (fun r => nxt X d N c (vv r)) (VO X ⟨d,.binOp op t x y t2,ty,pos,af,g⟩ c N)) (VO X ⟨d,.binOp op t x y t2,ty,pos,af,g⟩ c N)
    | .unOp op t x => unS (c.ev x).val? (fun u => unK op u (fun r => nxt X d N c (vv r)))
    | .convert s t x => convS (c.ev x) (X.P.underlying s) (X.P.underlying t) (fun r => nxt X d N c (vv r)) (vcConv2 c (c.ev x) (isBytesT X.P s) (isStrT X.P t) (fun r => nxt X d N c (vv r)) (VO X ⟨d,.convert s t x,ty,pos,af,g⟩ c N))
    | .extract x i => extS X d N c (c.ev x) i
    | .nilCheck x => nilS (c.ev x) (fun s => nxt X d N c s) (VO X ⟨d,.nilCheck x,ty,pos,af,g⟩ c N)
    | .build t parts => buildS X d N c (fieldsOf X.P t) (zeroCells X.P t) (partsS c parts.toList)
    | .buildSlice t n parts => bslS X d N c n (elemSz X.P t) (partsS c parts.toList)
    | .makeFunc (.func f) first caps => mkfS X d N c f (sps? c first.toList) (sps? c caps.toList)
    | .makeInterface t x => mkiS X d N c t (c.ev x).val? (X.P.underlying t)
    | .call { callee := .value fo,args := xs,argTypes := ts } => vcCall X (c.ev fo) (xs.toList.map c.ev) c (fun c' s => nxt X d N c' s) (VO X ⟨d,.call { callee := .value fo,args := xs,argTypes := ts },ty,pos,af,g⟩ c N)
    | .call { callee := .builtin .len,args := ⟨[x]⟩,argTypes := ⟨[t]⟩ } => lenB c (c.ev x) (X.P.underlying t) (fun r => nxt X d N c (vv r))
    | op => vcOp2 X ⟨d,op,ty,pos,af,g⟩ c N
theorem partsOne_iff : ∀ {l : List (Nat × S1)},partsOne l → ∀ p ∈ l,p.2.One
  | [],_,p,h => by simp at h
  | q :: l,ho,p,h => by
    rcases List.mem_cons.1 h with rfl | h
    · exact ho.1
    · exact partsOne_iff ho.2 p h
theorem vcOp_sound {X : Ctx} {o : Oper} {c : Cfg} {N : Cfg → Prop} (h : vcOp X o c N) : VO X o c N := by
  obtain ⟨d,op,ty,pos,af,g⟩ := o
  unfold vcOp at h
  simp only at h
  split at h
  · exact .move h
  · exact .assign h
  · unfold pickS at h
    split at h
    · rename_i hk;exact .pick hk h.1 h.2
    · exact h.elim
  · unfold allocS at h
    split at h
    · rename_i hz;exact .alloc hz h
    · exact h.elim
  · unfold boxS at h
    split at h
    · rename_i hx;exact .box hx h.1 h.2
    · exact h.elim
  · unfold vcLoad at h
    split at h
    · rename_i hx
      unfold loadA at h
      split at h
      · rename_i hl
        split at h
        · rename_i ha
          unfold load1S at h
          split at h
          · rename_i hs;exact .load1 hx ha hl hs h
          · exact h.elim
        · rename_i ha
          split at h
          · rename_i hz;exact .loadN hx ha hz hl h.1 h.2
          · exact h.elim
        · exact h.elim
      · exact h.elim
    · exact vcLoad2_sound h
  · obtain ⟨rfl,h⟩ := h
    unfold vcStore at h
    split at h
    · rename_i hx hy
      unfold storeA at h
      split at h
      · rename_i hl
        split at h
        · rename_i hz;exact .store hx hy h.1 hz h.2.1 hl h.2.2.1 h.2.2.2
        · exact h.elim
      · exact h.elim
    · rename_i hx hy
      unfold storeR at h
      split at h
      · rename_i hl hz hv;exact .storeRi hx hy h.1 hz hv h.2.1 hl h.2.2.1 h.2.2.2
      · exact h.elim
    · exact h
  · unfold fieldS at h
    split at h
    · rename_i hx
      split at h
      · rename_i hf;exact .fieldAddr hx hf h
      · exact h.elim
    · rename_i hx
      split at h
      · rename_i hf;exact .fieldAddrRi hx hf h
      · exact h.elim
    · rename_i hx
      split at h
      · rename_i hf;exact .fieldAddrV hx hf h
      · exact h.elim
    · exact h.elim
  · unfold binS at h
    split at h
    · rename_i hx hy;exact .binOp hx hy h
    · exact h
  · unfold unS at h
    split at h
    · rename_i hx;exact .unOp hx h
    · exact h.elim
  · unfold convS at h
    split at h
    · rename_i hx hs ht
      obtain ⟨rfl,h⟩ := h
      exact .convInt hx hs ht h
    · exact vcConv2_sound h
  · unfold extS at h
    split at h
    · rename_i hx
      unfold ext1 at h
      split at h
      · rename_i hi;exact .extract hx hi h
      · exact h.elim
    · exact h.elim
  · unfold nilS at h
    split at h
    · rename_i hx;exact .nilCheck hx h
    · rename_i hx
      exact .of_po (.nilCheckV hx) h
    · rename_i hx
      exact .of_po (.nilCheckRi hx) h
    · exact h
  · unfold buildS at h
    split at h
    · rename_i hpl hz hp
      obtain ⟨ho,h⟩ := h
      unfold build1 at h
      split at h
      · rename_i hf
        have := VO.build (X := X) (c := c) (N := N) (d := d) (ty := ty) (pos := pos) (af := af) (g := g) hpl hz hp (partsOne_iff ho) hf h
        simpa using this
      · exact h.elim
    · exact h.elim
  · unfold bslS at h
    split at h
    · rename_i he hp
      unfold bsl1 at h
      split at h
      · rename_i hz
        obtain ⟨h1,h2,h3,h⟩ := h
        unfold bsl2 at h
        split at h
        · rename_i hf
          have := VO.buildSlice (X := X) (c := c) (N := N) (d := d) (ty := ty) (pos := pos) (af := af) (g := g) he hz h1 h2 hp (partsOne_iff h3) hf h
          simpa using this
        · exact h.elim
      · exact h.elim
    · exact h.elim
  · unfold mkfS at h
    split at h
    · rename_i hp hq
      have := VO.makeFunc (X := X) (c := c) (N := N) (d := d) (ty := ty) (pos := pos) (af := af) (g := g) hp hq h
      simpa using this
    · exact h.elim
  · unfold mkiS at h
    split at h
    · rename_i hx hu
      exact .makeInterface hx hu (fun ms e => by rw [e] at h;simp [notIface] at h) h.2
    · exact h.elim
  · unfold vcCall at h
    split at h
    · rename_i fo xs ts _ f fst cap hf
      unfold callIf at h
      split at h
      · rename_i hok
        have := VO.call (X := X) (c := c) (N := N) (d := d) (ty := ty) (pos := pos) (af := af) (g := g) (ts := ts) hf hok h
        simpa using this
      · exact h
    · exact h
  · rename_i x t
    unfold lenB at h
    split at h
    · rename_i hx
      obtain ⟨⟨e,he⟩,h⟩ := h
      unfold lenRowK at h
      split at h
      · rename_i hl;exact .of_po (.lenRow (e' := e) hx hl he) h
      · exact h.elim
    refine .len (t := t) (x := x) ?_
    unfold lenA at h
    unfold lenK
    split at h
    · rename_i h1 h2;rw [h1];exact ⟨h2,h⟩
    · rename_i h1 h2;rw [h1];exact ⟨⟨_,h2⟩,h⟩
    · rename_i h1 h2;rw [h1];exact ⟨⟨_,h2⟩,h⟩
    · exact h.elim
  · exact vcOp2_sound h
def vcG1 (X : Ctx) (d : Option Tmp) (o : Oper) (pol : Bool) (t : Tmp) (s : Option SV) (c : Cfg) (N : Cfg → Prop) : Prop := match s with
  | some (.one (.c (.v (.bool b)))) => gif b pol (vcOp X o { c with env := (t,vv (.bool pol)) :: c.env } N) (nxt X d N { c with env := (t,vv (.bool (!pol))) :: c.env } (vv undef))
  | some (.one (.c (.v (.tuple vs)))) => vs = #[] ∧ nxt X d N c (vv undef)
  | _ => False
def vcG (X : Ctx) (d : Option Tmp) (o : Oper) (pol : Bool) (t : Option Tmp) (c : Cfg) (N : Cfg → Prop) : Prop := match t with
  | some t => vcG1 X d o pol t (c.env.lookup t) c N
  | none => False
def vc (X : Ctx) (ops : Array Oper) : List Oper → Cfg → (Cfg → Prop) → Prop
  | [],c,N => N c
  | o :: rest,c,N =>
    match o.guard with
    | none => vcOp X o c (fun c' => vc X ops rest c' N)
    | some (j,pol) => vcG X o.dst o pol ((ops[j]?).bind (·.dst)) c (fun c' => vc X ops rest c' N)
theorem Rel.same {X : Ctx} {c : Cfg} {ρ : List (List Nat)} {σ : List Value} {a : Act} {w : World} (h : Rel X c ρ σ a w) {t : Nat} {s : SV} (hs : c.env.lookup t = some s) : Rel X { c with env := (t,s) :: c.env } ρ σ a w :=
  ⟨fun t' s' he => by
    simp only [List.lookup_cons] at he
    by_cases e : t' = t
    · subst e;simp at he;subst he;exact h.env _ _ hs
    · have : (t' == t) = false := by simpa using e
      rw [this] at he;exact h.env _ _ he,h.len,h.lenS,h.loc,h.inj,h.lt,h.fresh,h.low,h.defers,h.size,h.one,h.pin⟩
theorem vc_sound {X : Ctx} {ops : Array Oper} : ∀ {rest : List Oper} {c : Cfg} {N : Cfg → Prop},vc X ops rest c N → OX X ops rest c N
  | [],c,N,h => .nil h
  | o :: rest,c,N,h => by
    unfold vc at h
    split at h
    · rename_i hg
      exact .cons hg (vcOp_sound h) (fun c' hc => vc_sound hc)
    · rename_i j pol hg
      unfold vcG at h
      split at h
      · rename_i t ht
        unfold vcG1 at h
        split at h
        · rename_i b hb
          refine .guarded (b := b) hg ht hb (N' := fun c' => vc X ops rest c' N) (fun e => ?_) (fun c' hc => vc_sound hc) (fun e => ?_)
          · intro ρ σ a w hr
            exact vcOp_sound (h.1 e) ρ σ a w (hr.same (by rw [hb,e];rfl))
          · refine ⟨(h.2 e).1,fun Q hQ ρ σ a w hr => ?_⟩
            refine vc_sound (h.2 e).2 Q hQ ρ σ a w ?_
            have hl : ∀ t' s,((Cfg.put { c with env := (t,vv (.bool (!pol))) :: c.env } o.dst (vv undef)).env.lookup t' = some s) → ((c.put o.dst (vv undef)).env.lookup t' = some s) := by
              intro t' s hs
              cases hd : o.dst with
              | none =>
                rw [hd] at hs
                simp only [Cfg.put,List.lookup_cons] at hs ⊢
                by_cases e2 : t' = t
                · subst e2;simp at hs;subst hs;rw [hb,e];rfl
                · have : (t' == t) = false := by simpa using e2
                  rw [this] at hs;exact hs
              | some u =>
                rw [hd] at hs
                simp only [Cfg.put,List.lookup_cons] at hs ⊢
                by_cases e1 : t' = u
                · subst e1;simpa using hs
                · have h1 : (t' == u) = false := by simpa using e1
                  rw [h1] at hs ⊢
                  simp only at hs ⊢
                  by_cases e2 : t' = t
                  · subst e2;simp at hs;subst hs;rw [hb,e];rfl
                  · have : (t' == t) = false := by simpa using e2
                    rw [this] at hs;exact hs
            have hloc : (Cfg.put { c with env := (t,vv (.bool (!pol))) :: c.env } o.dst (vv undef)).loc = (c.put o.dst (vv undef)).loc := by cases o.dst <;> rfl
            exact ⟨fun t' s hs => hr.env t' s (hl t' s hs),by rw [hloc];exact hr.len,by rw [hloc];exact hr.lenS,by rw [hloc];exact hr.loc,hr.inj,hr.lt,hr.fresh,hr.low,hr.defers,hr.size,hr.one,hr.pin⟩
        · rename_i vs hb
          obtain ⟨rfl,h2,h3⟩ := h
          exact .unguarded hg ht hb h2 (vc_sound h3)
        · exact h.elim
      · exact h.elim
theorem SX.ops {X : Ctx} {c : Cfg} {K : Exit → Cfg → Prop} {id : Nat} {l : List Oper} (h : vc X l.toArray l c (K .normal)) : SX X (.region id l.toArray false) c K :=
  .region (by simpa using vc_sound h)
section contracts
variable {X : Ctx} {P : Program} {c : Cfg} {f : FuncId} {args : List SV} {N : Cfg → SV → Prop}
theorem CallVC.of {vs : List Value} {r : Value} {s : SV} (hP : X.P = P) (hc : ∀ w,Calls P f vs.toArray w (fun e w' => e = .returned r ∧ Below w.heap.size w w'))
    (hv : svals? args = some vs) (hs : ∀ σ,DV σ s r) (hN : N c s) : CallVC X c f args N := by
  subst hP;exact .pure hv hc hs hN
theorem CallVC.pv {vs : List Value} {r : Value} (hP : X.P = P) (hc : ∀ w,Calls P f vs.toArray w (fun e w' => e = .returned r ∧ Below w.heap.size w w'))
    (hv : svals? args = some vs) (hN : N c (vv r)) : CallVC X c f args N := .of (s := vv r) hP hc hv (fun _ => rfl) hN
def tupS : List Value → List S1
  | [] => []
  | .agg cs :: l => .agg (cs.toList.map .v) :: tupS l
  | v :: l => .c (.v v) :: tupS l
theorem tupS_spec (σ : List Value) : ∀ l : List Value,All2 (D1 σ) (tupS l) l
  | [] => trivial
  | v :: l => by
    unfold tupS
    split
    · rename_i h;cases h
    · rename_i h;cases h;exact ⟨⟨_,by simp,all2_vals _⟩,tupS_spec σ _⟩
    · rename_i h;cases h;exact ⟨rfl,tupS_spec σ _⟩
theorem CallVC.pt {vs l : List Value} (hP : X.P = P) (hc : ∀ w,Calls P f vs.toArray w (fun e w' => e = .returned (.tuple l.toArray) ∧ Below w.heap.size w w'))
    (hv : svals? args = some vs) (hN : N c (.tup (tupS l))) : CallVC X c f args N := .of (s := .tup (tupS l)) hP hc hv (fun σ => ⟨l,rfl,tupS_spec σ l⟩) hN
end contracts
theorem SX.seqK {X : Ctx} {c : Cfg} {K : Exit → Cfg → Prop} {x y : Code} (h : ∀ N : Cfg → Prop,(∀ c',SX X y c' K → N c') → SX X x c (nx N K)) : SX X (.seq x y) c K := .seq (h _ fun _ h => h)
theorem SX.merge {X : Ctx} {b : Bool} {c1 c2 d : Cfg} {N : Cfg → Prop} {code : Code} {K : Exit → Cfg → Prop} (hN : ∀ c',SX X code c' K → N c') (sel1 sel2 : List Nat) (h1 : b = true → LeR X.base.length sel1 d c1) (h2 : b = false → LeR X.base.length sel2 d c2) (h : SX X code d K) : bif2 b (N c1) (N c2) :=
  ⟨fun e => hN _ (SX.select sel1 (h1 e) h),fun e => hN _ (SX.select sel2 (h2 e) h)⟩
theorem SX.less {X : Ctx} {c1 d : Cfg} {N : Cfg → Prop} {code : Code} {K : Exit → Cfg → Prop} (hN : ∀ c',SX X code c' K → N c') (sel : List Nat) (h1 : LeR X.base.length sel d c1) (h : SX X code d K) : N c1 := hN _ (SX.select sel h1 h)
theorem calls_pureK {P : Program} {f : FuncId} {fn : Func} {code : Code} {args : List Value} {R : Ending → World → Prop} (w : World) (hf : P.funcs[f]? = some fn) (hb : fn.body = some code) {n : Nat} (hnt : fn.ntmps = n) (hn : args.length ≤ n)
    (h : ∀ (X : Ctx) (K : Exit → Cfg → Prop),X = ⟨P,w,[],n,[]⟩ → (∀ e c,Fin X fn R e c → K e c) → SX X code ⟨argsEnv 0 args,[]⟩ K) : Calls P f args.toArray w R := by
  subst hnt
  exact calls_pure w hf hb hn (h _ _ rfl fun _ _ h => h)
end Go.Sx
