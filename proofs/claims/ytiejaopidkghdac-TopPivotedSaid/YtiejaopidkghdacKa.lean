/- A calculus of our own over the kit's fenced one: a frame is a function from slots to values, so that a step touches few terms. -/
import Derived.RangeFuncLeaves
import Derived.RangeFuncRecord
import Derived.OrdersIn
import Derived.WalkKit
import Derived.Deep.Quiet
namespace Go.Lf
set_option linter.unusedSimpArgs false
set_option linter.unusedVariables false
open Go

/-- A frame: what each slot holds, and the deferred calls. -/
structure Fr where
  t : Nat → Value
  ds : List Deferred

def Fr.put (s : Fr) (d : Option Tmp) (v : Value) : Fr :=
  match d with
  | some d => { s with t := fun i => if i = d then v else s.t i }
  | none => s

def Fr.ev (s : Fr) : Operand → Value
  | .tmp t => s.t t
  | .const v => v
  | .global g => .pointer (some ⟨g, 0, none⟩)
  | .func f => .func (.func f) #[] #[]

structure Sim (n : Nat) (s : Fr) (a : Act) : Prop where
  ds : a.defers = s.ds
  size : a.tmps.size = n
  get : ∀ i, a.tmps.getD i undef = s.t i

theorem Sim.eval {n : Nat} {s : Fr} {a : Act} (h : Sim n s a) : a.eval = s.ev := funext fun x => by
  cases x <;> first | rfl | exact h.get _

theorem Sim.put {n : Nat} {s : Fr} {a : Act} (h : Sim n s a) (d : Option Tmp) (hd : ∀ k, d = some k → k < n) (v : Value) : Sim n (s.put d v) (a.put d v) := by
  cases d with
  | none => exact h
  | some d =>
    have hlt := hd d rfl
    refine ⟨h.ds, by simp [Act.put, h.size], fun i => ?_⟩
    have hg := h.get i
    simp only [Act.put, Fr.put]
    by_cases hi : i = d
    · subst hi
      simp [h.size, hlt]
    · have hne : ¬ d = i := fun e => hi e.symm
      simp only [if_neg hi, ← hg]
      simp [hne]

theorem Sim.eq {n : Nat} {s s' : Fr} {a : Act} (h : Sim n s a) (h' : Sim n s' a) : s = s' := by
  cases s; cases s'
  have e1 := h.ds.symm.trans h'.ds
  have e2 : (fun i => a.tmps.getD i undef) = _ := funext h.get
  have e3 : (fun i => a.tmps.getD i undef) = _ := funext h'.get
  simp only at e1
  subst e1
  congr 1
  exact funext fun i => (h.get i).symm.trans (h'.get i)

/-- The wide fence, outside or inside a round. -/
def Fen (ro : Option Nat) : Fence := { Fence.wide with round := ro }

theorem callsIn_Fen {ro : Option Nat} {m : Nat} {P : Program} {f : FuncId} {args : Array Value} {w : World} {R : Ending → World → Prop} (h : Calls P f args w R) : CallsIn (Fen ro) m P f args w R :=
  (callsIn_wide (n := m)).2 h

theorem calls_of_Fen {ro : Option Nat} {m : Nat} {P : Program} {f : FuncId} {args : Array Value} {w : World} {R : Ending → World → Prop} (h : CallsIn (Fen ro) m P f args w R) : Calls P f args w R :=
  (callsIn_wide (n := m)).1 h

theorem depth_Fen (ro : Option Nat) (m : Nat) : (Fen ro).depth.isSome = true → 1 ≤ m := by simp [Fen, Fence.wide]

section
variable (P : Program) (n : Nat) (ro : Option Nat)

/-- The wp over frames that are functions. -/
def FW (c : Code) (Q : Exit → Fr → World → Prop) (s : Fr) (w : World) : Prop :=
  ∀ a, Sim n s a → c.wpIn (Fen ro) 0 P (fun e a' w' => ∃ s', Sim n s' a' ∧ Q e s' w') a w

/-- A call that returns. -/
def CallsV (f : FuncId) (args : Array Value) (w : World) (R : Value → World → Prop) : Prop :=
  Calls P f args w fun e w' => ∃ v, e = .returned v ∧ R v w'

/-- A round that returns. -/
def RoundV (l : Nat) (f : FuncId) (tmps : Array Value) (assign body : Code) (w : World) (R : Value → World → Prop) : Prop :=
  RoundIn (Fen ro) 0 P l f tmps assign body w fun e w' => ∃ v, e = .returned v ∧ R v w'

/-- What one operation's run must lead to. -/
def upF (o : Oper) (s : Fr) (next : Fr → World → Prop) : Result Next → Prop
  | .ok (.value v) w' => next (s.put o.dst v) w'
  | .ok .skip w' => next (s.put o.dst undef) w'
  | .ok (.defer d) w' => next ({ s with ds := d :: s.ds }.put o.dst undef) w'
  | .ok (.enter f args) w' => CallsV P f args w' fun v w'' => next (s.put o.dst v) w''
  | .ok (.round l f tmps assign body) w' => RoundV P ro l f tmps assign body w' fun v w'' => next (s.put o.dst v) w''
  | _ => False

def opF (o : Oper) (s : Fr) (w : World) (next : Fr → World → Prop) : Prop :=
  upF P ro o s next ((o.semAt ro s.ev).run P w)

def yieldF (all : Array Oper) (s : Fr) (j : Nat) : Option Bool :=
  match (all[j]?).bind (·.dst) with
  | some d => match s.t d with | .bool b => some b | _ => none
  | none => none

def opsF (all : Array Oper) (K : Fr → World → Prop) : List Oper → Fr → World → Prop
  | [], s, w => K s w
  | o :: l, s, w => if Region.wanted o (yieldF all s) = true then opF P ro o s w (opsF all K l) else opsF all K l (s.put o.dst undef) w

/-- Every slot that a region writes lies in the frame. -/
def dstsOk (all : Array Oper) : Bool := all.toList.all fun o => match o.dst with | some d => decide (d < n) | none => true
end

section
variable {P : Program} {n : Nat} {ro : Option Nat} {Q : Exit → Fr → World → Prop} {s : Fr} {w : World}

def thenE (K : Fr → World → Prop) (Q : Exit → Fr → World → Prop) : Exit → Fr → World → Prop
  | .normal, s, w => K s w
  | e, s, w => Q e s w

def inBlockE (id : Nat) (Q : Exit → Fr → World → Prop) : Exit → Fr → World → Prop
  | .exit id', s, w => if id' = id then Q .normal s w else Q (.exit id') s w
  | e, s, w => Q e s w

theorem fw_mono {c : Code} {Q' : Exit → Fr → World → Prop} (h : FW P n ro c Q s w) (hq : ∀ e s w, Q e s w → Q' e s w) : FW P n ro c Q' s w :=
  fun a ha => wpIn_mono (h a ha) fun e _ w' ⟨s', hs, q⟩ => ⟨s', hs, hq e s' w' q⟩

theorem fw_skip (h : Q .normal s w) : FW P n ro .skip Q s w := fun _ ha => wpIn_skip ⟨s, ha, h⟩
theorem fw_exit {id : Nat} (h : Q (.exit id) s w) : FW P n ro (.exit id) Q s w := fun _ ha => wpIn_exit ⟨s, ha, h⟩
theorem fw_goto {l : Nat} (h : Q (.goto l) s w) : FW P n ro (.goto l) Q s w := fun _ ha => wpIn_goto ⟨s, ha, h⟩
theorem fw_label {l : Nat} (h : Q .normal s w) : FW P n ro (.label l) Q s w := fun _ ha => wpIn_label ⟨s, ha, h⟩
theorem fw_ret (h : Q .ret s w) : FW P n ro .ret Q s w := fun _ ha => wpIn_ret ⟨s, ha, h⟩

theorem fw_seq {x y : Code} (h : ∀ K : Fr → World → Prop, (∀ s w, FW P n ro y Q s w → K s w) → FW P n ro x (thenE K Q) s w) : FW P n ro (.seq x y) Q s w :=
  fun a ha => wpIn_seq (wpIn_mono (h _ (fun _ _ h => h) a ha) fun e a' w' ⟨s', hs, q⟩ => by
    cases e with
    | normal => exact q a' hs
    | exit id => exact ⟨s', hs, q⟩
    | goto l => exact ⟨s', hs, q⟩
    | ret => exact ⟨s', hs, q⟩
    | panic ch => exact ⟨s', hs, q⟩
    | outgrown => exact ⟨s', hs, q⟩)

theorem fw_cond {c : Operand} {x y : Code} {b : Bool} (hc : s.ev c = .bool b) (h1 : b = true → FW P n ro x Q s w) (h2 : b = false → FW P n ro y Q s w) : FW P n ro (.cond c x y) Q s w :=
  fun a ha => wpIn_cond_split (by rw [ha.eval]; exact hc) (fun h => h1 h a ha) (fun h => h2 h a ha)

theorem fw_block {id : Nat} {c : Code} (h : FW P n ro c (inBlockE id Q) s w) : FW P n ro (.block id c) Q s w :=
  fun a ha => wpIn_block (wpIn_mono (h a ha) fun e a' w' ⟨s', hs, q⟩ => by
    cases e with
    | exit id' =>
      simp only [inBlockE] at q
      simp only [Exit.inBlock]
      split at q
      · rename_i hid; rw [if_pos hid]; exact ⟨s', hs, q⟩
      · rename_i hid; rw [if_neg hid]; exact ⟨s', hs, q⟩
    | normal => exact ⟨s', hs, q⟩
    | goto l => exact ⟨s', hs, q⟩
    | ret => exact ⟨s', hs, q⟩
    | panic ch => exact ⟨s', hs, q⟩
    | outgrown => exact ⟨s', hs, q⟩)

theorem least (p : Nat → Prop) (h : ∃ m, p m) : ∃ m, p m ∧ ∀ k, p k → m ≤ k := by
  classical
  obtain ⟨m, hm⟩ := h
  induction m using Nat.strongRecOn with
  | _ m ih =>
    by_cases hk : ∃ k, k < m ∧ p k
    · obtain ⟨k, hlt, hp⟩ := hk
      exact ih k hlt hp
    · refine ⟨m, hm, fun k hp => ?_⟩
      rcases Nat.lt_or_ge k m with h | h
      · exact absurd ⟨k, h, hp⟩ hk
      · exact h

/-- A loop, by an invariant over a number that goes down. -/
theorem fw_loop {c : Code} (I : Nat → Fr → World → Prop) (m : Nat) (h0 : I m s w)
    (h : ∀ m s w, I m s w → FW P n ro c (thenE (fun s' w' => ∃ m', m' < m ∧ I m' s' w') Q) s w) : FW P n ro (.loop c) Q s w := by
  classical
  intro a ha
  refine wpIn_loop (fun a w => ∃ m s, Sim n s a ∧ I m s w)
    (fun a w => if hx : ∃ m s, Sim n s a ∧ I m s w then (least _ hx).choose else 0) ⟨m, s, ha, h0⟩ ?_
  intro a w hx
  obtain ⟨s1, ha1, hI1⟩ := (least _ hx).choose_spec.1
  refine wpIn_mono (h _ _ _ hI1 a ha1) ?_
  rintro e a' w' ⟨s', hs', q⟩
  cases e with
  | normal =>
    obtain ⟨m', hm', hI'⟩ := q
    have hx' : ∃ m s, Sim n s a' ∧ I m s w' := ⟨m', s', hs', hI'⟩
    refine ⟨hx', ?_⟩
    rw [dif_pos hx, dif_pos hx']
    exact Nat.lt_of_le_of_lt ((least _ hx').choose_spec.2 m' ⟨s', hs', hI'⟩) hm'
  | exit id => exact ⟨s', hs', q⟩
  | goto l => exact ⟨s', hs', q⟩
  | ret => exact ⟨s', hs', q⟩
  | panic ch => exact ⟨s', hs', q⟩
  | outgrown => exact ⟨s', hs', q⟩
end
end Go.Lf
