/- Ranges over functions. -/
import Derived.Test.YtiejaopidkghdacKd
namespace Go.Lf
set_option linter.unusedSimpArgs false
set_option linter.unusedVariables false
open Go

section
variable {P : Program} {n : Nat} {ro : Option Nat} {Q : Exit → Fr → World → Prop} {s : Fr} {w : World}

theorem RoundV.on {l : Nat} {f : FuncId} {tmps : Array Value} {assign body : Code} {R R' : Value → World → Prop} (h : RoundV P ro l f tmps assign body w R) (hr : ∀ v w', R v w' → R' v w') : RoundV P ro l f tmps assign body w R' :=
  RoundIn.mono h fun _ w' ⟨v, he, hR⟩ => ⟨v, he, hr v w' hR⟩

/-- A call of yield: what it runs, and what becomes of it. -/
def YieldV (P : Program) (l : Nat) (args : Array Value) (w : World) (R : Value → World → Prop) : Prop :=
  ∃ f tmps assign body, (Instr.yield l args).run P w = .ok (.round l f tmps assign body) w ∧ RoundV P none l f tmps assign body w R

theorem YieldV.on {l : Nat} {args : Array Value} {R R' : Value → World → Prop} (h : YieldV P l args w R) (hr : ∀ v w', R v w' → R' v w') : YieldV P l args w R' :=
  let ⟨f, t, a, b, h1, h2⟩ := h
  ⟨f, t, a, b, h1, h2.on hr⟩

/-- What a round's end must lead to. -/
def roundQ (l : Nat) (R : Value → World → Prop) : Exit → Fr → World → Prop
  | .normal, _, w => ∃ r, w.heap[l]? = some (.loop r) ∧ R (.bool true) (w.putObj l (.loop { r with state := .ready, pending := none }))
  | .ret, _, w => ∃ r, w.heap[l]? = some (.loop r) ∧ R (.bool false) (w.putObj l (.loop { r with state := .done, pending := some .ret }))
  | .exit id, _, w => ∃ r, w.heap[l]? = some (.loop r) ∧ R (.bool false) (w.putObj l (.loop { r with state := .done, pending := some (.exit id) }))
  | _, _, _ => False

/-- What the assignments at a round's begin must lead to. -/
def assignQ (P : Program) (n l : Nat) (body : Code) (R : Value → World → Prop) (e : Exit) (s1 : Fr) (w1 : World) : Prop :=
  e = .normal ∧ ∃ r1, w1.heap[l]? = some (.loop r1) ∧ r1.state = .ready ∧ FW P n (some l) body (roundQ l R) s1 (w1.putObj l (.loop { r1 with state := .busy }))

theorem sim_params (args : List Value) : ∀ (ps : List Tmp) (tmps : Array Value) (t : Nat → Value), tmps.size = n → (∀ i, tmps.getD i undef = t i) → (∀ p ∈ ps, p < n) →
    ((ps.zip args).foldl (fun tmps (t, a) => tmps.setIfInBounds t a) tmps).size = n ∧
      ∀ i, ((ps.zip args).foldl (fun tmps (t, a) => tmps.setIfInBounds t a) tmps).getD i undef = ((ps.zip args).foldl (fun (f : Nat → Value) (x : Tmp × Value) => fun i => if i = x.1 then x.2 else f i) t) i := by
  induction args with
  | nil => intro ps tmps t hs hg _; simp [hs]; intro i; simpa using hg i
  | cons a args ih =>
    intro ps tmps t hs hg hp
    cases ps with
    | nil => simp [hs]; intro i; simpa using hg i
    | cons p ps =>
      simp only [List.zip_cons_cons, List.foldl_cons]
      refine ih ps _ _ (by simp [hs]) (fun i => ?_) (fun q hq => hp q (by simp [hq]))
      have hlt := hp p (by simp)
      by_cases hi : i = p
      · subst hi; simp [hs, hlt]
      · have hne : ¬ p = i := fun e => hi e.symm
        have := hg i
        simp [hi, hne] at this ⊢
        exact this

/-- A round, out of the walks of its two pieces of code. -/
theorem yieldV_of {l : Nat} {args : Array Value} {r : Loop} (hr : w.heap[l]? = some (.loop r)) (hs : r.state = .ready) (hsz : args.size = r.params.size) (hn : r.tmps.size = n) (t : Nat → Value) (hg : ∀ i, r.tmps.getD i undef = t i)
    (hp : ∀ p ∈ r.params.toList, p < n) {R : Value → World → Prop}
    (h : FW P n (some l) r.assign (assignQ P n l r.body R)
      ⟨(r.params.toList.zip args.toList).foldl (fun (f : Nat → Value) (x : Tmp × Value) => fun i => if i = x.1 then x.2 else f i) t, []⟩ w) : YieldV P l args w R := by
  obtain ⟨h1, h2⟩ := sim_params args.toList r.params.toList r.tmps t hn hg hp
  have e0 : (r.params.zip args).foldl (fun tmps (t, a) => tmps.setIfInBounds t a) r.tmps = (r.params.toList.zip args.toList).foldl (fun tmps (t, a) => tmps.setIfInBounds t a) r.tmps := by
    rw [← Array.foldl_toList, Array.toList_zip]
  refine ⟨_, _, _, _, run_yield hr hsz, ?_⟩
  refine roundIn_of_wpIn (F := Fen none) trivial ?_
  rw [e0]
  refine wpIn_mono (h _ ⟨rfl, h1, h2⟩) ?_
  rintro e a w1 ⟨s1, hs1, rfl, r1, hr1, hst, hb⟩
  refine ⟨_, run_beginRound hr1 hst, wpIn_mono (hb a hs1) ?_⟩
  rintro e a2 w2 ⟨s2, hs2, q⟩
  cases e with
  | normal => obtain ⟨r2, hr2, hR⟩ := q; exact ⟨_, _, run_endRound none hr2, _, rfl, hR⟩
  | ret => obtain ⟨r2, hr2, hR⟩ := q; exact ⟨_, _, run_endRound (some .ret) hr2, _, rfl, hR⟩
  | exit id => obtain ⟨r2, hr2, hR⟩ := q; exact ⟨_, _, run_endRound (some (.exit id)) hr2, _, rfl, hR⟩
  | goto t => exact q.elim
  | panic ch => exact q.elim
  | outgrown => exact q.elim

/-- The record of a range over a function, as it is laid. -/
def recOf (fn : FuncId) (T : Array Value) (ps : Array Tmp) (assign body : Code) (d : Nat) : Loop :=
  { state := .ready, pending := none, fn := fn, tmps := T, params := ps, assign := assign, body := body, defers := d }

/-- The statement, outside every round. -/
theorem fw_range {g : Operand} {ps : Array Tmp} {assign body : Code} {gf : FuncId} {cap : Array Value} (hgv : s.ev g = .func (.func gf) #[] cap)
    (hcf : ∀ (args : Array Value) (w : World), (callFunc gf args).run P w = .ok (.enter gf args) w)
    (h : ∀ (fn : FuncId) (T : Array Value) (w1 : World), T.size = n → (∀ i, T.getD i undef = s.t i) → New w w1 → w1.heap.size = w.heap.size + 2 → w1.heap[w.heap.size]? = some (.deferred (some [])) →
      w1.heap[w.heap.size + 1]? = some (.loop (recOf fn T ps assign body w.heap.size)) →
      CallsV P gf (#[.func (.yield (w.heap.size + 1)) #[] #[]] ++ cap) w1 fun _ w2 => ∃ r, w2.heap[w.heap.size + 1]? = some (.loop r) ∧ r.state ≠ .busy ∧
        match r.pending with
        | none => Q .normal { s with ds := { target := .collected w.heap.size, args := #[] } :: s.ds } (w2.putObj (w.heap.size + 1) (.loop { r with state := .exhausted }))
        | some c => FW P n none c Q { s with ds := { target := .collected w.heap.size, args := #[] } :: s.ds } (w2.putObj (w.heap.size + 1) (.loop { r with state := .exhausted }))) :
    FW P n none (.rangeFunc g ps assign body) Q s w := by
  intro a ha
  refine wpIn_rangeFunc fun fn _ => ?_
  have hres : ∀ W : World, (resolve a.eval (rangeCall g (w.heap.size + 1)) 0).run P W = .ok { target := .fn (.func gf) cap, args := #[.func (.yield (w.heap.size + 1)) #[] #[]] } W := by
    intro W
    rw [ha.eval]
    have hc : s.ev (.const (.func (.yield (w.heap.size + 1)) #[] #[])) = .func (.yield (w.heap.size + 1)) #[] #[] := rfl
    simp [resolve, hgv, Deferred.ofValue, hc]
  have hinv : ∀ W : World, (invoke (.fn (.func gf) cap) #[.func (.yield (w.heap.size + 1)) #[] #[]]).run P W = .ok (.enter gf (#[.func (.yield (w.heap.size + 1)) #[] #[]] ++ cap)) W := fun W => hcf _ W
  refine ⟨w.heap.size + 1, [{ target := .collected w.heap.size, args := #[] }], _, { target := .fn (.func gf) cap, args := #[.func (.yield (w.heap.size + 1)) #[] #[]] }, _, gf, _, _, run_enterLoop_outer fn a.tmps ps assign body, hres _, fun _ _ => trivial, hinv _, depth_Fen none 0, ?_⟩
  refine callsIn_Fen ?_
  · refine Calls.mono (h fn a.tmps _ ha.size ha.get ((Frm.alloc _ _ _).trans (Frm.alloc _ _ _) (fun _ _ h => h)) (by simp) ?_ ?_) ?_
    · rw [RowKit.Below.heap_alloc _ _ _ (by simp)]
      exact World.alloc_heap_new w _
    · have := World.alloc_heap_new (w.alloc (.deferred (some []))) (.loop (recOf fn a.tmps ps assign body w.heap.size))
      rw [World.size_alloc] at this
      exact this
    · rintro e w2 ⟨v, rfl, r, hr, hb, hq⟩
      have hs' : Sim n { s with ds := { target := .collected w.heap.size, args := #[] } :: s.ds } { a with defers := [{ target := .collected w.heap.size, args := #[] }] ++ a.defers } := ⟨by simp [ha.ds], ha.size, ha.get⟩
      refine ⟨r.pending, _, run_endLoop hr hb, ?_⟩
      cases hp : r.pending with
      | none => rw [hp] at hq; exact ⟨_, hs', hq⟩
      | some c => rw [hp] at hq; exact hq _ hs'

def rangeOf : Code → Option (Operand × Array Tmp) | .rangeFunc g ps _ _ => some (g, ps) | _ => none

theorem at_range {b : Code} {p : List Nat} {g : Operand} {ps : Array Tmp} (hc : rangeOf (sub b p) = some (g, ps)) {gf : FuncId} {cap : Array Value} (hgv : s.ev g = .func (.func gf) #[] cap)
    (hcf : ∀ (args : Array Value) (w : World), (callFunc gf args).run P w = .ok (.enter gf args) w)
    (h : ∀ (fn : FuncId) (T : Array Value) (w1 : World), T.size = n → (∀ i, T.getD i undef = s.t i) → New w w1 → w1.heap.size = w.heap.size + 2 → w1.heap[w.heap.size]? = some (.deferred (some [])) →
      w1.heap[w.heap.size + 1]? = some (.loop (recOf fn T ps (sub b (0 :: p)) (sub b (1 :: p)) w.heap.size)) →
      CallsV P gf (#[.func (.yield (w.heap.size + 1)) #[] #[]] ++ cap) w1 fun _ w2 => ∃ r, w2.heap[w.heap.size + 1]? = some (.loop r) ∧ r.state ≠ .busy ∧
        match r.pending with
        | none => Q .normal { s with ds := { target := .collected w.heap.size, args := #[] } :: s.ds } (w2.putObj (w.heap.size + 1) (.loop { r with state := .exhausted }))
        | some c => FW P n none c Q { s with ds := { target := .collected w.heap.size, args := #[] } :: s.ds } (w2.putObj (w.heap.size + 1) (.loop { r with state := .exhausted }))) :
    FW P n none (sub b p) Q s w := by
  simp only [sub] at h
  revert hc h
  cases sub b p <;> intro hc h <;> try (cases hc; done)
  cases hc
  exact fw_range hgv hcf h
end
end Go.Lf
