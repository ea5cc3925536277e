/- More of the calculus: slots carried, rows cut short. -/
import Derived.Test.YtiejaopidkghdacKe
import Derived.Test.YtiejaopidkghdacKf
import Derived.Test.YtiejaopidkghdacKg
import Derived.Test.YtiejaopidkghdacKh
namespace Go.Lf
set_option linter.unusedSimpArgs false
set_option linter.unusedVariables false
open Go

theorem fa_nil {f : Nat → Value} : ∀ p ∈ ([] : List (Nat × Value)), f p.1 = p.2 := by simp
theorem fa_cons {f : Nat → Value} {k : Nat} {v : Value} {l : List (Nat × Value)} (h : f k = v) (t : ∀ p ∈ l, f p.1 = p.2) : ∀ p ∈ (k, v) :: l, f p.1 = p.2 := by
  intro p hp
  rcases List.mem_cons.1 hp with rfl | hp
  · exact h
  · exact t p hp

theorem New.trans {a b c : World} (h : New a b) (k : New b c) : New a c := Frm.trans h k (fun _ _ h => h)
theorem New.refl (a : World) : New a a := Frm.refl _ a

theorem Frm.comp {S S' T : Nat → Prop} {a b c : World} (h : Frm S a b) (k : Frm S' b c) (h1 : ∀ i, i < a.heap.size → S i → T i) (h2 : ∀ i, i < a.heap.size → S' i → T i) : Frm T a c :=
  (h.mono h1).trans k h2
/-! ### calls, one by one -/
section
variable {P : Program} {ro : Option Nat} {all : Array Oper} {K : Fr → World → Prop} {l rest : List Oper} {o : Oper} {s : Fr} {w : World}

theorem callFunc_enter {f : FuncId} {fn : Func} (hf : P.funcs[f]? = some fn) (h1 : (fn.name == "runtime.NumGoroutine") = false) (h2 : fn.body.isNone = false) (args : Array Value) (w : World) : (callFunc f args).run P w = .ok (.enter f args) w := by
  have h1' : ¬ fn.name = "runtime.NumGoroutine" := by simpa using h1
  have h2' : ¬ fn.body = none := by intro e; rw [e] at h2; cases h2
  unfold callFunc
  simp [Sem.run_bind, program, Sem.run, hf, h1', h2', Result.andThen, pure]

theorem opF_callv {next : Fr → World → Prop} {f : FuncId} {x : Operand} {cap : Array Value} {args : Array Operand} {ats : Array TypeId} (ho : o.op = .call { callee := .value x, args := args, argTypes := ats })
    (hcf : ∀ (args : Array Value) (w : World), (callFunc f args).run P w = .ok (.enter f args) w) (hx : s.ev x = .func (.func f) #[] cap) {vs : Array Value} (hv : args.map s.ev = vs)
    (h : CallsV P f (vs ++ cap) w fun v w'' => next (s.put o.dst v) w'') : opF P ro o s w next := by
  unfold opF
  rw [semAt_of (by rw [ho]; intro c h; cases h)]
  have : (execOp s.ev o).run P w = .ok (.enter f (vs ++ cap)) w := by
    unfold execOp
    simp only [ho, resolve, Sem.run_bind, Sem.run_pure, Result.andThen_ok, hx, hv, Deferred.ofValue, pure_bind]
    have := hcf (vs ++ cap) w
    simpa [invoke, Sem.run_bind] using this
  rw [this]
  exact h

theorem opF_call {next : Fr → World → Prop} {f : FuncId} {args : Array Operand} {ats : Array TypeId} (ho : o.op = .call { callee := .value (.func f), args := args, argTypes := ats })
    (hcf : ∀ (args : Array Value) (w : World), (callFunc f args).run P w = .ok (.enter f args) w) {vs : Array Value} (hv : args.map s.ev = vs)
    (h : CallsV P f vs w fun v w'' => next (s.put o.dst v) w'') : opF P ro o s w next :=
  opF_callv ho hcf (cap := #[]) rfl hv (by simpa using h)

theorem ops_callv (hl : l = o :: rest) (hg : Region.wanted o (yieldF all s) = true) {f : FuncId} {x : Operand} {cap : Array Value} {args : Array Operand} {ats : Array TypeId} (ho : o.op = .call { callee := .value x, args := args, argTypes := ats })
    (hcf : ∀ (args : Array Value) (w : World), (callFunc f args).run P w = .ok (.enter f args) w) (hx : s.ev x = .func (.func f) #[] cap) {vs : Array Value} (hv : args.map s.ev = vs)
    (h : CallsV P f (vs ++ cap) w fun v w'' => opsF P ro all K rest (s.put o.dst v) w'') : opsF P ro all K l s w := by
  subst hl
  simp only [opsF]
  rw [if_pos hg]
  exact opF_callv ho hcf hx hv h

theorem ops_call (hl : l = o :: rest) (hg : Region.wanted o (yieldF all s) = true) {f : FuncId} {args : Array Operand} {ats : Array TypeId} (ho : o.op = .call { callee := .value (.func f), args := args, argTypes := ats })
    (hcf : ∀ (args : Array Value) (w : World), (callFunc f args).run P w = .ok (.enter f args) w) {vs : Array Value} (hv : args.map s.ev = vs)
    (h : CallsV P f vs w fun v w'' => opsF P ro all K rest (s.put o.dst v) w'') : opsF P ro all K l s w :=
  ops_callv hl hg ho hcf (cap := #[]) rfl hv (by simpa using h)

theorem ops_skip (hl : l = o :: rest) (hg : Region.wanted o (yieldF all s) = false) (h : opsF P ro all K rest (s.put o.dst undef) w) : opsF P ro all K l s w := by
  subst hl
  simp only [opsF]
  rw [if_neg (by rw [hg]; simp)]
  exact h
end

/-- Blocks of unlike objects are unlike. -/
theorem Blk.ne_obj {w : World} {b b' : Nat} {c : Array Value} {T : TypeId} (h : Blk w b c T) {o : Obj} (h' : w.heap[b']? = some o) (hne : o ≠ .cells c T (0, 0)) : b' ≠ b := by
  intro e
  subst e
  have hb : w.heap[b']? = _ := h
  rw [h'] at hb
  exact hne (Option.some.inj hb)

/-- A row cut short. -/
theorem Row.cut {w : World} {T z n g cap : Nat} {xs : List Value} (h : Row w T z (.slice (some ⟨g, 0, none⟩) n cap) n xs) {m : Nat} (hm : m ≤ n) :
    Row w T z (.slice (some ⟨g, 0, none⟩) m cap) m (xs.take (m * z)) := by
  rcases h.2 with ⟨hv, _⟩ | ⟨g', cap', cur, hv, hb, hg, h1, h2, h3, h4⟩
  · cases hv
  · cases hv
    have hle : m * z ≤ n * z := Nat.mul_le_mul_right _ hm
    refine ⟨by rw [List.length_take, h.1]; omega, .inr ⟨g, cap, cur, rfl, hb, hg, by omega, h2, h3, ?_⟩⟩
    rw [← h4, List.take_take, Nat.min_eq_left hle]

theorem Row.nil (w : World) (T z : Nat) : Row w T z (.slice none 0 0) 0 [] := ⟨by simp, .inl ⟨rfl, rfl⟩⟩

/-- A row just laid. -/
theorem Row.new (w : World) (cs : List Value) (T z n : Nat) (hn : cs.length = n * z) (hm : n ≤ maxLen) : Row (w.alloc (.cells cs.toArray T)) T z (.slice (some ⟨w.heap.size, 0, none⟩) n n) n cs :=
  ⟨hn, .inr ⟨w.heap.size, n, cs.toArray, rfl, Nat.zero_le _, World.alloc_heap_new w _, Nat.le_refl _, hm, by simp [hn], by simp [← hn]⟩⟩
end Go.Lf
