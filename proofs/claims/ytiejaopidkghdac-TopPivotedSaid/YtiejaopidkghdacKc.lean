/- The calculus' rules for a whole function, and for a region that only reads, in whatever order. -/
import Derived.Test.YtiejaopidkghdacKb
import Derived.StillTail
namespace Go.Lf
set_option linter.unusedSimpArgs false
set_option linter.unusedVariables false
open Go

/-- A function's results, off a frame that is a function. -/
def resF (fn : Func) (s : Fr) : Sem Value := do
  let vs ← fn.results.mapM fun
    | .tmp t => pure (s.t t)
    | .cell a t => do loadVar t (← asAddr (s.t a))
  pure (if h : vs.size = 1 then vs[0] else .tuple vs)

theorem resF_sim {n : Nat} {fn : Func} {s : Fr} {a : Act} (h : Sim n s a) : results fn a.tmps = resF fn s := by
  unfold results resF
  congr 1
  congr 1
  funext x
  cases x <;> simp only [h.get]

/-- Leaving: the marks of ranges over functions are shut, one by one; then the results. -/
def leaveF (P : Program) (fn : Func) (s : Fr) (R : Value → World → Prop) : List Deferred → World → Prop
  | [], w => ∃ v, (resF fn s).run P w = .ok v w ∧ R v w
  | d :: ds, w => ∃ r, d = { target := .collected r, args := #[] } ∧ w.heap[r]? = some (.deferred (some [])) ∧ leaveF P fn s R ds (w.putObj r (.deferred none))

def postF (P : Program) (fn : Func) (R : Value → World → Prop) : Exit → Fr → World → Prop
  | .normal, s, w | .ret, s, w => leaveF P fn s R s.ds w
  | _, _, _ => False

theorem leaves_of {P : Program} {fn : Func} {s : Fr} {R : Value → World → Prop} {n : Nat} {a : Act} (hs : Sim n s a) : ∀ (ds : List Deferred) (w : World), leaveF P fn s R ds w →
    LeavesInM (Fen none) 0 P fn a.tmps (fun e w' => ∃ v, e = .returned v ∧ R v w') ds .returning w := by
  intro ds
  induction ds with
  | nil =>
    rintro w ⟨v, hr, hR⟩
    exact ⟨v, by rw [resF_sim hs]; exact hr, v, rfl, hR⟩
  | cons d ds ih =>
    rintro w ⟨r, rfl, hh, hrest⟩
    exact ⟨by simp, .inl ⟨r, _, rfl, run_takeDeferred hh, ih _ hrest⟩⟩

theorem calls_of_fw {P : Program} {f : FuncId} {fn : Func} {c : Code} {args : Array Value} {w : World} {R : Value → World → Prop} (hf : P.funcs[f]? = some fn) (hb : fn.body = some c) (m : Nat) (hm : fn.ntmps = m) (hargs : args.size ≤ m)
    (h : FW P m none c (postF P fn R) ⟨fun i => args.getD i undef, []⟩ w) : CallsV P f args w R := by
  subst hm
  refine calls_of_Fen (ro := none) (m := 0) (callsIn_of_wp_marks hf hb trivial ?_)
  refine wpIn_mono (h _ ?_) ?_
  · refine ⟨rfl, by simp; omega, fun i => ?_⟩
    by_cases hi : i < args.size
    · simp [Array.getElem?_append, hi]
    · have : args.size ≤ i := by omega
      simp [Array.getElem?_append, hi, Array.getElem?_replicate]
      split <;> rfl
  · rintro e a' w' ⟨s', hs', q⟩
    cases e with
    | normal => have := leaves_of hs' _ _ q; rw [← hs'.ds] at this; exact this
    | ret => have := leaves_of hs' _ _ q; rw [← hs'.ds] at this; exact this
    | exit id => exact q.elim
    | goto l => exact q.elim
    | panic ch => exact q.elim
    | outgrown => exact q.elim

section
variable {P : Program} {n : Nat} {Q : Exit → Fr → World → Prop} {s : Fr} {w : World}

/-- A region that draws its order, of which no operation turns the world: as in the text's order. -/
def stillUpF (P : Program) (o : Oper) (s : Fr) (w : World) (next : Fr → Prop) : Result Next → Prop
  | .ok (.value v) w' => w' = w ∧ next (s.put o.dst v)
  | .ok .skip w' => w' = w ∧ next (s.put o.dst undef)
  | .ok (.enter f args) w' => w' = w ∧ ∃ v, Calls P f args w (fun e w'' => e = .returned v ∧ w'' = w) ∧ next (s.put o.dst v)
  | _ => False

def stillsF (P : Program) (all : Array Oper) (w : World) (K : Fr → Prop) : List Oper → Fr → Prop
  | [], s => K s
  | o :: l, s => if Region.wanted o (yieldF all s) = true then stillUpF P o s w (stillsF P all w K l) ((execOp s.ev o).run P w) else stillsF P all w K l (s.put o.dst undef)

theorem stillsF_sound {all : Array Oper} {K : Fr → Prop} (hd : dstsOk n all = true) : ∀ (l : List Oper), (∀ o ∈ l, o ∈ all.toList) → ∀ (s : Fr) (a : Act), Sim n s a →
    stillsF P all w K l s → wpStill P all w (fun a' => ∃ s', Sim n s' a' ∧ K s') l a := by
  intro l
  induction l with
  | nil => intro _ s a hs h; exact ⟨s, hs, h⟩
  | cons o l ih =>
    intro hl s a hs h
    have hd' : ∀ k, o.dst = some k → k < n := by
      obtain ⟨i, hi, he⟩ := List.getElem_of_mem (hl o (by simp))
      exact dstsOk_spec hd (i := i) (by rw [← he]; simp at hi; simp [hi])
    have ih' := ih fun o ho => hl o (by simp [ho])
    simp only [wpStill]
    simp only [stillsF] at h
    rw [yieldF_sim hd hs]
    split
    · rename_i hw
      rw [if_pos hw] at h
      unfold Oper.still
      rw [hs.eval]
      generalize (execOp s.ev o).run P w = r at *
      cases r with
      | halt x w' => exact h.elim
      | ok x w' =>
        cases x with
        | value v => exact ⟨h.1, ih' _ _ (hs.put _ hd' v) h.2⟩
        | skip => exact ⟨h.1, ih' _ _ (hs.put _ hd' undef) h.2⟩
        | enter f args =>
          obtain ⟨h1, v, h2, h3⟩ := h
          exact ⟨h1, v, h2, ih' _ _ (hs.put _ hd' v) h3⟩
        | _ => exact h.elim
    · rename_i hw
      rw [if_neg hw] at h
      exact ih' _ _ (hs.put _ hd' undef) h

theorem fw_region_still {id : Nat} {l : List Oper} (hm : P.follows .mixedOrders = true) (hB : Region.lexB .any l.toArray = true) (hd : dstsOk n l.toArray = true)
    (h : stillsF P l.toArray { w with drawn := w.drawn + 1 } (fun s' => Q .normal s' { w with drawn := w.drawn + 1 }) l s) : FW P n none (.region id l.toArray true) Q s w := by
  intro a ha
  refine wpIn_wide.2 (wp_region_still_lit hm hB ?_)
  exact stillsF_sound (K := fun s' => Q .normal s' { w with drawn := w.drawn + 1 }) hd l (by simp) s a ha h

/-- Operations in the text's order, none of them a call of yield. -/
def upP (P : Program) (o : Oper) (s : Fr) (next : Fr → World → Prop) : Result Next → Prop
  | .ok (.value v) w' => next (s.put o.dst v) w'
  | .ok .skip w' => next (s.put o.dst undef) w'
  | .ok (.enter f args) w' => CallsV P f args w' fun v w'' => next (s.put o.dst v) w''
  | _ => False

def opsP (P : Program) (all : Array Oper) (K : Fr → World → Prop) : List Oper → Fr → World → Prop
  | [], s, w => K s w
  | o :: l, s, w => if Region.wanted o (yieldF all s) = true then upP P o s (opsP P all K l) ((execOp s.ev o).run P w) else opsP P all K l (s.put o.dst undef) w

theorem opP_plain {o : Oper} {a : Act} {next : Fr → World → Prop} {next' : Act → World → Prop} {Q' : Exit → Act → World → Prop} (hs : Sim n s a) (hd : ∀ k, o.dst = some k → k < n)
    (hn : ∀ s' a' w', Sim n s' a' → next s' w' → next' a' w') (h : upP P o s next ((execOp s.ev o).run P w)) : o.wp P a w next' Q' := by
  unfold Oper.wp
  rw [hs.eval]
  generalize (execOp s.ev o).run P w = r at *
  cases r with
  | halt x w' => exact h.elim
  | ok x w' =>
    cases x with
    | value v => exact hn _ _ _ (hs.put _ hd v) h
    | skip => exact hn _ _ _ (hs.put _ hd undef) h
    | enter f args => exact Calls.mono h fun e w'' ⟨v, he, hv⟩ => by subst he; exact hn _ _ _ (hs.put _ hd v) hv
    | _ => exact h.elim

theorem opsF_list {all : Array Oper} (hd : dstsOk n all = true) : ∀ (l : List Oper), (∀ o ∈ l, o ∈ all.toList) → ∀ (s : Fr) (a : Act) (w : World), Sim n s a →
    opsP P all (Q .normal) l s w → wpList P all (fun e a' w' => ∃ s', Sim n s' a' ∧ Q e s' w') l a w := by
  intro l
  induction l with
  | nil => intro _ s a w hs h; exact ⟨s, hs, h⟩
  | cons o l ih =>
    intro hl s a w hs h
    have hd' : ∀ k, o.dst = some k → k < n := by
      obtain ⟨i, hi, he⟩ := List.getElem_of_mem (hl o (by simp))
      exact dstsOk_spec hd (i := i) (by rw [← he]; simp at hi; simp [hi])
    have ih' := ih fun o ho => hl o (by simp [ho])
    simp only [wpList]
    simp only [opsP] at h
    rw [yieldF_sim hd hs]
    split
    · rename_i hw
      rw [if_pos hw] at h
      exact .inl (opP_plain hs hd' (fun s' a' w' hs' h' => ih' s' a' w' hs' h') h)
    · rename_i hw
      rw [if_neg hw] at h
      exact ih' _ _ _ (hs.put _ hd' undef) h

/-- The first k operations only read, in whatever order; the others come behind them, in the text's order. -/
theorem fw_region_tail {id : Nat} {l : List Oper} (k : Nat) (hm : P.follows .mixedOrders = true) (hB : Region.lexTailB .any l.toArray k = true) (hd : dstsOk n l.toArray = true)
    (h : stillsF P l.toArray { w with drawn := w.drawn + 1 } (fun s' => opsP P l.toArray (Q .normal) (l.drop k) s' { w with drawn := w.drawn + 1 }) (l.take k) s) : FW P n none (.region id l.toArray true) Q s w := by
  intro a ha
  refine wpIn_wide.2 (wp_region_still_tail k hm hB ?_)
  have hmem : ∀ (j : List Oper), (∀ o ∈ j, o ∈ l) → ∀ o ∈ j, o ∈ l.toArray.toList := fun j hj o ho => by simpa using hj o ho
  have := stillsF_sound (K := fun s' => opsP P l.toArray (Q .normal) (l.drop k) s' { w with drawn := w.drawn + 1 }) hd (l.take k) (hmem _ fun o ho => List.mem_of_mem_take ho) s a ha h
  have mono : ∀ (q : List Oper) (a : Act), wpStill P l.toArray { w with drawn := w.drawn + 1 } (fun a' => ∃ s', Sim n s' a' ∧ opsP P l.toArray (Q .normal) (l.drop k) s' { w with drawn := w.drawn + 1 }) q a →
      wpStill P l.toArray { w with drawn := w.drawn + 1 } (fun a' => wpList P l.toArray (fun e a' w' => ∃ s', Sim n s' a' ∧ Q e s' w') (l.drop k) a' { w with drawn := w.drawn + 1 }) q a := by
    intro q
    induction q with
    | nil =>
      rintro a ⟨s', hs', h'⟩
      exact opsF_list hd (l.drop k) (hmem _ fun o ho => List.mem_of_mem_drop ho) s' a _ hs' h'
    | cons o q ih =>
      intro a h
      simp only [wpStill] at h ⊢
      split
      · rename_i hw
        rw [if_pos hw] at h
        exact Oper.still_mono (fun a' h' => ih a' h') h
      · rename_i hw
        rw [if_neg hw] at h
        exact ih _ h
  exact mono _ _ this
end
end Go.Lf
