/- Slices that grow by one element; blocks told apart by what they hold. -/
import Derived.Test.YtiejaopidkghdacKj
namespace Go.Lf
set_option linter.unusedSimpArgs false
set_option linter.unusedVariables false
open Go

theorem obj_ne {w : World} {a b : Nat} {o1 o2 : Obj} (h1 : w.heap[a]? = some o1) (h2 : w.heap[b]? = some o2) (h : o1 ≠ o2) : a ≠ b := by
  intro e
  subst e
  rw [h1] at h2
  exact h (Option.some.inj h2)

theorem Blk.ne {w : World} {a b : Nat} {c c' : Array Value} {T T' : TypeId} (h1 : Blk w a c T) (h2 : Blk w b c' T') (h : T ≠ T') : a ≠ b :=
  obj_ne h1 h2 (by intro e; cases e; exact h rfl)

theorem Row.not {w : World} {T z n : Nat} {v : Value} {xs : List Value} (h : Row w T z v n xs) {b : Nat} {o : Obj} (ho : w.heap[b]? = some o) (hne : ∀ cur, o ≠ .cells cur T (0, 0)) : v.ownBlock ≠ some b := by
  intro e
  obtain ⟨cur, hc⟩ := h.obj e
  rw [ho] at hc
  exact hne cur (Option.some.inj hc)

theorem Row.notBlk {w : World} {T z n : Nat} {v : Value} {xs : List Value} (h : Row w T z v n xs) {b : Nat} {c : Array Value} {T' : TypeId} (hb : Blk w b c T') (hne : T ≠ T') : v.ownBlock ≠ some b :=
  h.not hb (by intro cur e; cases e; exact hne rfl)

/-- 'append' of one element just laid, onto a row. -/
theorem Row.grow {P : Program} {w : World} {T z n : Nat} {v : Value} {xs : List Value} (h : Row w T z v n xs) {S ty : TypeId} {zero : Value} {bytes : Nat} (ht : P.underlying S = some (.slice T))
    (hi : (P.info? T).map (fun i => (i.zero, i.size, i.bytes)) = some (some zero, z, bytes)) (hzs : zero.cells.size = z) (hz : 0 < z) (news : List Value) (hl : news.length = z)
    (h1 : ∀ u ∈ news, u.oneCell' = true) (h63 : n + 1 ≤ maxLen) (hb : (n + 1) * bytes ≤ 140737488355328) :
    ∃ v' w2, (Builtin.append_ #[S, S] ty #[v, .slice (some ⟨w.heap.size, 0, none⟩) 1 1]).run P (w.alloc (.cells news.toArray T)) = .ok v' w2 ∧ Row w2 T z v' (n + 1) (xs ++ news) ∧
      Frm (fun k => v.ownBlock = some k) w w2 ∧ ∀ k, v'.ownBlock = some k → v.ownBlock = some k ∨ w.heap.size ≤ k := by
  have hA := Frm.alloc (fun _ => False) w (.cells news.toArray T)
  obtain ⟨v', w2, hap, hrow, hfr, _, hown⟩ := (h.frm hA (fun _ _ h => h)).append (P := P) (t := S) (ty := ty) ht hi hzs hz ⟨w.heap.size, 0, none⟩ 1 1 news (by rw [hl]; omega) (new_cells w news T) h1 h63 hb
  refine ⟨v', w2, hap, hrow, hA.comp hfr (fun _ _ h => h.elim) (fun _ _ h => h), fun k hk => ?_⟩
  rcases hown k hk with h | ⟨h, _⟩
  · exact .inl h
  · exact .inr (by simp at h; omega)

/-- The same, where the slice lies in a cell of its own, and is stored there again. -/
theorem Row.growAt {P : Program} {w : World} {T z n b : Nat} {v : Value} {xs : List Value} {S' : TypeId} (h : Row w T z v n xs) (hb : Blk w b #[v] S') (hST : T ≠ S') {S ty : TypeId} {zero : Value} {bytes : Nat} (ht : P.underlying S = some (.slice T))
    (hi : (P.info? T).map (fun i => (i.zero, i.size, i.bytes)) = some (some zero, z, bytes)) (hzs : zero.cells.size = z) (hz : 0 < z) (news : List Value) (hl : news.length = z)
    (h1 : ∀ u ∈ news, u.oneCell' = true) (h63 : n + 1 ≤ maxLen) (hbt : (n + 1) * bytes ≤ 140737488355328) :
    ∃ v' w2, (Builtin.append_ #[S, S] ty #[v, .slice (some ⟨w.heap.size, 0, none⟩) 1 1]).run P (w.alloc (.cells news.toArray T)) = .ok v' w2 ∧ Blk w2 b #[v] S' ∧ Blk (w2.setCell ⟨b, 0, none⟩ v') b #[v'] S' ∧
      Row (w2.setCell ⟨b, 0, none⟩ v') T z v' (n + 1) (xs ++ news) ∧ Frm (fun k => k = b ∨ v.ownBlock = some k) w (w2.setCell ⟨b, 0, none⟩ v') ∧ ∀ k, v'.ownBlock = some k → v.ownBlock = some k ∨ w.heap.size ≤ k := by
  obtain ⟨v', w2, hap, hrow, hfr, hown⟩ := h.grow (P := P) (ty := ty) ht hi hzs hz news hl h1 h63 hbt
  have hb2 : Blk w2 b #[v] S' := hb.frm hfr (h.notBlk hb hST)
  have hset := Frm.setCell (S := fun k => k = b) w2 ⟨b, 0, none⟩ v' rfl
  refine ⟨v', w2, hap, hb2, by simpa using hb2.set 0 v', hrow.frm hset (fun k hk e => ?_), hfr.comp hset (fun _ _ h => .inr h) (fun _ _ h => .inl h), hown⟩
  subst e
  exact hrow.notBlk hb2 hST hk
end Go.Lf
namespace Go.Lf
open Go
section
variable {P : Program} {all : Array Oper} {K : Fr → World → Prop} {l rest : List Oper} {o : Oper} {s : Fr} {w : World}
/-- A store of what is there. -/
theorem setCell_same {b : Nat} {v : Value} {T : TypeId} (h : Blk w b #[v] T) : w.setCell ⟨b, 0, none⟩ v = w := by
  have h' : w.heap[b]? = _ := h
  obtain ⟨hlt, he⟩ := Array.getElem?_eq_some_iff.1 h'
  unfold World.setCell
  have hm : ∀ f : Obj → Obj, f w.heap[b] = w.heap[b] → w.heap.modify b f = w.heap := by
    intro f hf
    apply Array.ext
    · simp
    · intro i h1 h2
      rw [Array.getElem_modify]
      split
      · rename_i hi
        subst hi
        exact hf
      · rfl
  rw [hm _ (by rw [he]; simp)]
/-- A call of yield. -/
theorem ops_yield (hl : l = o :: rest) (hg : Region.wanted o (yieldF all s) = true) {L : Nat} {x : Operand} {args : Array Operand} {ats : Array TypeId} (ho : o.op = .call { callee := .value x, args := args, argTypes := ats })
    (hx : s.ev x = .func (.yield L) #[] #[]) {vs : Array Value} (hv : args.map s.ev = vs)
    (h : YieldV P L vs w fun v w'' => opsF P none all K rest (s.put o.dst v) w'') : opsF P none all K l s w := by
  subst hl
  simp only [opsF]
  rw [if_pos hg]
  unfold opF
  rw [semAt_of (by rw [ho]; intro c h; cases h)]
  obtain ⟨f, t, a, b, h1, h2⟩ := h
  have : (execOp s.ev o).run P w = .ok (.round L f t a b) w := by
    unfold execOp
    simp only [ho, resolve, Sem.run_bind, Sem.run_pure, Result.andThen_ok, hx, hv, Deferred.ofValue, pure_bind]
    simpa [invoke, Sem.run_bind] using h1
  rw [this]
  exact h2
end
end Go.Lf
