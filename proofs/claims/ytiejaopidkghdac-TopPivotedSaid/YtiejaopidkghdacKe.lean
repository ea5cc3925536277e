/- Rows of records in memory; maps as functions. -/
import Derived.Test.YtiejaopidkghdacKd
import Derived.Maps.Own
import Derived.Maps.OwnOps
import Derived.DeepKeys4
namespace Go.Lf
set_option linter.unusedSimpArgs false
set_option linter.unusedVariables false
open Go

/-! ### single operations -/
section
variable {P : Program} {ro : Option Nat} {all : Array Oper} {K : Fr → World → Prop} {l rest : List Oper} {o : Oper} {s : Fr} {w : World}

theorem ops_one (hl : l = o :: rest) (hg : o.guard = none) (h : opF P ro o s w (opsF P ro all K rest)) : opsF P ro all K l s w := by
  subst hl
  simp only [opsF]
  rw [if_pos (by simp [Region.wanted, hg])]
  exact h

theorem semAt_of {ρ : Operand → Value} (h : ∀ c, o.op ≠ .defer c) : o.semAt ro ρ = execOp ρ o := Oper.semAt_eq ro ρ o h

theorem ops_builtin (hl : l = o :: rest) (hg : o.guard = none) {b : Builtin} {args : Array Operand} {ats : Array TypeId} (ho : o.op = .call { callee := .builtin b, args := args, argTypes := ats }) {vs : Array Value} (hv : args.map s.ev = vs) {v' : Value} {w' : World}
    (hrun : ∀ cs, (builtin b ats o.type cs vs).run P w = .ok (.value v') w') (h : opsF P ro all K rest (s.put o.dst v') w') : opsF P ro all K l s w := by
  refine ops_one hl hg ?_
  unfold opF
  rw [semAt_of (by rw [ho]; intro c h; cases h)]
  have : (execOp s.ev o).run P w = .ok (.value v') w' := by
    unfold execOp
    simp only [ho, resolve, invoke, Sem.run_bind, Sem.run_pure, Result.andThen_ok]
    rw [hv]
    exact hrun _
  rw [this]
  exact h

theorem ops_append (hl : l = o :: rest) (hg : o.guard = none) {x y : Operand} {t : TypeId} (ho : o.op = .call { callee := .builtin .append, args := #[x, y], argTypes := #[t, t] }) {v u : Value} (hx : s.ev x = v) (hy : s.ev y = u) {v' : Value} {w' : World}
    (hrun : (Builtin.append_ #[t, t] o.type #[v, u]).run P w = .ok v' w') (h : opsF P ro all K rest (s.put o.dst v') w') : opsF P ro all K l s w :=
  ops_builtin hl hg ho (vs := #[v, u]) (by simp [hx, hy]) (fun cs => by simp [builtin, Sem.run_bind, hrun, Result.andThen]) h

theorem ops_delete (hl : l = o :: rest) (hg : o.guard = none) {x y : Operand} {t t2 : TypeId} (ho : o.op = .call { callee := .builtin .delete, args := #[x, y], argTypes := #[t, t2] }) {v u : Value} (hx : s.ev x = v) (hy : s.ev y = u) {v' : Value} {w' : World}
    (hrun : (Builtin.delete_ #[t, t2] o.type #[v, u]).run P w = .ok v' w') (h : opsF P ro all K rest (s.put o.dst v') w') : opsF P ro all K l s w :=
  ops_builtin hl hg ho (vs := #[v, u]) (by simp [hx, hy]) (fun cs => by simp [builtin, Sem.run_bind, hrun, Result.andThen]) h

theorem opsP_builtin (hl : l = o :: rest) (hg : o.guard = none) {b : Builtin} {args : Array Operand} {ats : Array TypeId} (ho : o.op = .call { callee := .builtin b, args := args, argTypes := ats }) {vs : Array Value} (hv : args.map s.ev = vs) {v' : Value} {w' : World}
    (hrun : ∀ cs, (builtin b ats o.type cs vs).run P w = .ok (.value v') w') (h : opsP P all K rest (s.put o.dst v') w') : opsP P all K l s w := by
  subst hl
  simp only [opsP]
  rw [if_pos (by simp [Region.wanted, hg])]
  have : (execOp s.ev o).run P w = .ok (.value v') w' := by
    unfold execOp
    simp only [ho, resolve, invoke, Sem.run_bind, Sem.run_pure, Result.andThen_ok]
    rw [hv]
    exact hrun _
  rw [this]
  exact h

theorem opsP_append (hl : l = o :: rest) (hg : o.guard = none) {x y : Operand} {t : TypeId} (ho : o.op = .call { callee := .builtin .append, args := #[x, y], argTypes := #[t, t] }) {v u : Value} (hx : s.ev x = v) (hy : s.ev y = u) {v' : Value} {w' : World}
    (hrun : (Builtin.append_ #[t, t] o.type #[v, u]).run P w = .ok v' w') (h : opsP P all K rest (s.put o.dst v') w') : opsP P all K l s w :=
  opsP_builtin hl hg ho (vs := #[v, u]) (by simp [hx, hy]) (fun cs => by simp [builtin, Sem.run_bind, hrun, Result.andThen]) h

theorem opsP_delete (hl : l = o :: rest) (hg : o.guard = none) {x y : Operand} {t t2 : TypeId} (ho : o.op = .call { callee := .builtin .delete, args := #[x, y], argTypes := #[t, t2] }) {v u : Value} (hx : s.ev x = v) (hy : s.ev y = u) {v' : Value} {w' : World}
    (hrun : (Builtin.delete_ #[t, t2] o.type #[v, u]).run P w = .ok v' w') (h : opsP P all K rest (s.put o.dst v') w') : opsP P all K l s w :=
  opsP_builtin hl hg ho (vs := #[v, u]) (by simp [hx, hy]) (fun cs => by simp [builtin, Sem.run_bind, hrun, Result.andThen]) h
end

/-! ### lists of equal pieces -/

theorem flat_length {α β : Type} (f : α → List β) (c : Nat) (hf : ∀ x, (f x).length = c) : ∀ l : List α, (l.flatMap f).length = l.length * c
  | [] => by simp
  | x :: l => by simp [hf, flat_length f c hf l, Nat.succ_mul, Nat.add_comm]

theorem flat_get {α β : Type} (f : α → List β) (c : Nat) (hf : ∀ x, (f x).length = c) : ∀ (l : List α) (i j : Nat), j < c → (l.flatMap f)[i * c + j]? = (l[i]?).bind fun x => (f x)[j]?
  | [], i, j, _ => by simp
  | x :: l, 0, j, hj => by
    simp only [List.flatMap_cons, Nat.zero_mul, Nat.zero_add, List.getElem?_cons_zero, Option.bind_some]
    rw [List.getElem?_append_left (by rw [hf]; exact hj)]
  | x :: l, i + 1, j, hj => by
    simp only [List.flatMap_cons, List.getElem?_cons_succ]
    rw [List.getElem?_append_right (by rw [hf, Nat.succ_mul]; omega), hf, show (i + 1) * c + j - c = i * c + j by rw [Nat.succ_mul]; omega]
    exact flat_get f c hf l i j hj

theorem flat_take {α β : Type} (f : α → List β) (c : Nat) (hf : ∀ x, (f x).length = c) : ∀ (l : List α) (i : Nat), (l.flatMap f).take (i * c) = (l.take i).flatMap f
  | [], i => by simp
  | x :: l, 0 => by simp
  | x :: l, i + 1 => by
    simp only [List.flatMap_cons, List.take_succ_cons]
    rw [List.take_append, List.take_of_length_le (by rw [hf, Nat.succ_mul]; omega), hf, show (i + 1) * c - c = i * c by rw [Nat.succ_mul]; omega, flat_take f c hf l i]

theorem flat_set {α : Type} {β : Type} (f : α → List β) (c : Nat) (hf : ∀ x, (f x).length = c) : ∀ (l : List α) (i j : Nat) (v : β) (x : α), l[i]? = some x → j < c → ∀ y, (f x).set j v = f y → (l.flatMap f).set (i * c + j) v = (l.set i y).flatMap f
  | [], i, j, v, x, h, _, y, _ => by simp at h
  | a :: l, 0, j, v, x, h, hj, y, hy => by
    simp only [List.getElem?_cons_zero, Option.some.injEq] at h
    subst h
    simp only [List.flatMap_cons, Nat.zero_mul, Nat.zero_add, List.set_cons_zero]
    rw [List.set_append_left _ _ (by rw [hf]; exact hj), hy]
  | a :: l, i + 1, j, v, x, h, hj, y, hy => by
    simp only [List.getElem?_cons_succ] at h
    simp only [List.flatMap_cons, List.set_cons_succ]
    rw [List.set_append_right _ _ (by rw [hf, Nat.succ_mul]; omega), hf, show (i + 1) * c + j - c = i * c + j by rw [Nat.succ_mul]; omega, flat_set f c hf l i j v x h hj y hy]

/-! ### rows -/

/-- The slice value v has n elements of type T, of z cells each: these cells, in a block of its own. -/
abbrev Row (w : World) (T z : Nat) (v : Value) (n : Nat) (xs : List Value) : Prop := w.ownsRow 0 T z v n xs

theorem Row.frm {S : Nat → Prop} {w w' : World} {T z n : Nat} {v : Value} {xs : List Value} (h : Row w T z v n xs) (hf : Frm S w w') (hn : ∀ k, v.ownBlock = some k → ¬ S k) : Row w' T z v n xs := by
  refine ⟨h.1, ?_⟩
  rcases h.2 with h' | ⟨g, cap, cur, rfl, hb, hg, rest⟩
  · exact .inl h'
  · refine .inr ⟨g, cap, cur, rfl, hb, ?_, rest⟩
    rw [hf.block g (Array.getElem?_eq_some_iff.1 hg).1 (hn g rfl)]
    exact hg

theorem Row.lt {w : World} {T z n : Nat} {v : Value} {xs : List Value} (h : Row w T z v n xs) : ∀ k, v.ownBlock = some k → k < w.heap.size := fun k hk => (World.ownsRow.lt h k hk).2

/-- Its value: nil, or an address, its length and room. -/
theorem Row.val {w : World} {T z n : Nat} {v : Value} {xs : List Value} (h : Row w T z v n xs) : (v = .slice none 0 0 ∧ n = 0 ∧ xs = []) ∨ ∃ g cap, v = .slice (some ⟨g, 0, none⟩) n cap ∧ n ≤ cap ∧ cap ≤ maxLen := by
  rcases h.2 with ⟨hv, hn⟩ | ⟨g, cap, cur, hv, _, _, h1, h2, _⟩
  · exact .inl ⟨hv, hn, List.eq_nil_of_length_eq_zero (by rw [h.1, hn]; simp)⟩
  · exact .inr ⟨g, cap, hv, h1, h2⟩

theorem Row.cell {w : World} {T z n g cap : Nat} {xs : List Value} (h : Row w T z (.slice (some ⟨g, 0, none⟩) n cap) n xs) {j : Nat} {u : Value} (hu : xs[j]? = some u) : w.cell? ⟨g, j, none⟩ = some u := by
  have := World.ownsRow.cells h (g := g) rfl j u hu
  simpa [Addr.add] using (by
    have e : (⟨g, 0, none⟩ : Addr).add j = ⟨g, j, none⟩ := by unfold Addr.add; split <;> simp_all
    rw [e] at this; exact this : w.cell? ⟨g, j, none⟩ = some u)

theorem Row.frozen {w : World} {T z n g cap : Nat} {xs : List Value} (h : Row w T z (.slice (some ⟨g, 0, none⟩) n cap) n xs) (j : Nat) : w.frozen? ⟨g, j, none⟩ = false := by
  rcases h.2 with ⟨hv, _⟩ | ⟨g', cap', cur, hv, _, hg, _⟩
  · cases hv
  · cases hv
    simp [World.frozen?, hg]

theorem Row.set {w : World} {T z n g cap : Nat} {xs : List Value} (h : Row w T z (.slice (some ⟨g, 0, none⟩) n cap) n xs) (j : Nat) (u : Value) :
    Row (w.setCell ⟨g, j, none⟩ u) T z (.slice (some ⟨g, 0, none⟩) n cap) n (xs.set j u) := by
  rcases h.2 with ⟨hv, _⟩ | ⟨g', cap', cur, hv, hb, hg, h1, h2, h3, h4⟩
  · cases hv
  · cases hv
    refine ⟨by simp [h.1], .inr ⟨g, cap, cur.setIfInBounds j u, rfl, hb, ?_, h1, h2, by simp [h3], ?_⟩⟩
    · simp [World.setCell, Array.getElem?_modify, hg]
    · rw [← h4]
      simp [List.take_set]

/-- The cells of a block just laid. -/
theorem new_cells (w : World) (cs : List Value) (T : TypeId) : ∀ j u, cs[j]? = some u → (w.alloc (.cells cs.toArray T)).cell? ((⟨w.heap.size, 0, none⟩ : Addr).add j) = some u := by
  intro j u hu
  have e : (⟨w.heap.size, 0, none⟩ : Addr).add j = ⟨w.heap.size, j, none⟩ := by unfold Addr.add; split <;> simp_all
  rw [e, (Blk.new w cs.toArray T).cell j]
  simpa using hu

/-- A row's block holds cells of its type. -/
theorem Row.obj {w : World} {T z n g : Nat} {v : Value} {xs : List Value} (h : Row w T z v n xs) (hg : v.ownBlock = some g) : ∃ cur, w.heap[g]? = some (.cells cur T (0, 0)) := by
  rcases h.2 with ⟨rfl, _⟩ | ⟨g', cap, cur, rfl, _, hh, _⟩
  · cases hg
  · cases hg
    exact ⟨cur, hh⟩

/-- 'append' onto a row: what it yields. -/
theorem Row.append {P : Program} {w : World} {T z n : Nat} {v : Value} {xs : List Value} (h : Row w T z v n xs) {t ty : TypeId} {zero : Value} {bytes : Nat} (ht : P.underlying t = some (.slice T))
    (hi : (P.info? T).map (fun i => (i.zero, i.size, i.bytes)) = some (some zero, z, bytes)) (hzs : zero.cells.size = z) (hz : 0 < z) (a : Addr) (m c : Nat) (news : List Value) (hl : news.length = m * z)
    (hnews : ∀ j u, news[j]? = some u → w.cell? (a.add j) = some u) (h1 : ∀ u ∈ news, u.oneCell' = true) (h63 : n + m ≤ maxLen) (hb : (n + m) * bytes ≤ 140737488355328) :
    ∃ v' w', (Builtin.append_ #[t, t] ty #[v, .slice (some a) m c]).run P w = .ok v' w' ∧ Row w' T z v' (n + m) (xs ++ news) ∧ Frm (fun k => v.ownBlock = some k) w w' ∧ (v' = .slice none 0 0 ↔ v = .slice none 0 0 ∧ m = 0) ∧
      ∀ k, v'.ownBlock = some k → v.ownBlock = some k ∨ (w.heap.size ≤ k ∧ k < w'.heap.size) := by
  obtain ⟨i, hi1, hi2, hi3, hi4⟩ := info_parts hi
  obtain ⟨v', w', r1, r2, r3, r4⟩ := run_append_own (P := P) w 0 t ty T i zero z bytes ht hi1 hi2 hi3 hi4 hzs hz v n xs h a m c news hl hnews h1 h63 hb (Nat.zero_le _)
  refine ⟨v', w', r1, r2, Frm.grown r3 (fun k hk => hk), r4, fun k hk => ?_⟩
  have hlt := (World.ownsRow.lt r2 k hk).2
  subst hi3
  rcases h.2 with ⟨rfl, rfl⟩ | ⟨g, cap, cur, rfl, _, hg, hnc, hcm, hcs, htake⟩
  · obtain ⟨v2, w2, q1, q2, _⟩ := run_append_own (P := P) w w.heap.size t ty T i zero i.size bytes ht hi1 hi2 rfl hi4 hzs hz (.slice none 0 0) 0 [] (World.ownsRow_nil _ _ _ _) a m c news hl hnews h1 h63 hb (Nat.le_refl _)
    rw [q1] at r1
    cases r1
    exact .inr (World.ownsRow.lt q2 k hk)
  · by_cases hroom : n + m ≤ cap
    · have hfit : n * i.size + news.length ≤ cur.size := by rw [hl, hcs, ← Nat.add_mul]; exact Nat.mul_le_mul_right _ hroom
      have q1 := run_append_room (P := P) w t ty T i ht hi1 g n cap cur hg a m c news hl hnews h1 hroom hfit
      rw [q1] at r1
      cases r1
      exact .inl hk
    · have holds : ∀ j u, xs[j]? = some u → w.cell? ((⟨g, 0, none⟩ : Addr).add j) = some u := h.cells (g := g) rfl
      have q1 := run_append_grow (P := P) w t ty T i zero ht hi1 hi2 ⟨g, 0, none⟩ n cap xs h.1 holds a m c news hl hnews (by omega) (by unfold maxLen at h63; omega) (growslice_fits (by omega) (by rw [hi4]; exact hb))
      rw [q1] at r1
      cases r1
      cases hk
      exact .inr ⟨Nat.le_refl _, hlt⟩

/-! ### maps -/

/-- Block b is a map whose keys are keys of type k, and F tells what it holds. -/
def MapIs (P : Program) (k : TypeId) (w : World) (b : Nat) (F : Value → Option Value) : Prop :=
  ∃ es clock, w.heap[b]? = some (.map es clock) ∧ (∀ e ∈ es.toList, ∃ l, keyOf P k e.key = some l) ∧ es.toList.Pairwise (fun a b => a.key ≠ b.key) ∧
    ∀ x v, F x = some v ↔ ∃ e ∈ es.toList, e.key = x ∧ e.val = v

theorem MapIs.lt {P : Program} {k : TypeId} {w : World} {b : Nat} {F : Value → Option Value} (h : MapIs P k w b F) : b < w.heap.size := by
  obtain ⟨es, clock, hb, _⟩ := h
  exact (Array.getElem?_eq_some_iff.1 hb).1

theorem MapIs.frm {P : Program} {k : TypeId} {S : Nat → Prop} {w w' : World} {b : Nat} {F : Value → Option Value} (h : MapIs P k w b F) (hf : Frm S w w') (hn : ¬ S b) : MapIs P k w' b F := by
  have hlt := h.lt
  obtain ⟨es, clock, hb, rest⟩ := h
  exact ⟨es, clock, (hf.block b hlt hn).trans hb, rest⟩

theorem mapIs_new (P : Program) (k : TypeId) (w : World) : MapIs P k (w.alloc (.map #[] 0)) w.heap.size (fun _ => none) :=
  ⟨#[], 0, World.alloc_heap_new w _, by simp, by simp, by simp⟩

section
variable {P : Program} {k : TypeId} {w : World} {b : Nat} {F : Value → Option Value}

theorem MapIs.look (h : MapIs P k w b F) (K : Maps.Keyed P k) {t e : TypeId} (ht : P.underlying t = some (.map k e)) {z : Value} (hz : (zeroValue e).run P w = .ok z w) {key : Value} {kl : Lit} (hkey : keyOf P k key = some kl) :
    (Instr.lookup t (.map (some b)) key true).run P w = .ok (match F key with | some v => .tuple #[v, .bool true] | none => .tuple #[z, .bool false]) w := by
  obtain ⟨es, clock, hb, hks, hd, hF⟩ := h
  rcases K.find w hkey es.toList hks with ⟨hrun, hne⟩ | ⟨j, e0, hrun, hj, hk⟩
  · have hn : F key = none := by
      cases hf : F key with
      | none => rfl
      | some v =>
        obtain ⟨x, hx, hxk, _⟩ := (hF key v).1 hf
        exact absurd hxk (hne x hx)
    rw [hn]
    simp [Instr.lookup, Sem.run_bind, run_underlying ht, getObj, Sem.run, hb, Result.andThen, K.check w _ hkey, hrun, hz]
  · have hs : F key = some e0.val := (hF key _).2 ⟨e0, List.mem_of_getElem? hj, hk, rfl⟩
    rw [hs]
    simp [Instr.lookup, Sem.run_bind, run_underlying ht, getObj, Sem.run, hb, Result.andThen, K.check w _ hkey, hrun]

theorem pairwise_key_inj {l : List MapEntry} (hd : l.Pairwise (fun a b => a.key ≠ b.key)) {i j : Nat} {a b : MapEntry} (hi : l[i]? = some a) (hj : l[j]? = some b) (h : a.key = b.key) : i = j := by
  obtain ⟨hi', rfl⟩ := List.getElem?_eq_some_iff.1 hi
  obtain ⟨hj', rfl⟩ := List.getElem?_eq_some_iff.1 hj
  rcases Nat.lt_trichotomy i j with hlt | heq | hgt
  · exact absurd h (List.pairwise_iff_getElem.1 hd i j hi' hj' hlt)
  · exact heq
  · exact absurd h.symm (List.pairwise_iff_getElem.1 hd j i hj' hi' hgt)

open Classical in
theorem MapIs.update (h : MapIs P k w b F) (K : Maps.Keyed P k) {t e : TypeId} (ht : P.underlying t = some (.map k e)) {key : Value} {kl : Lit} (hkey : keyOf P k key = some kl) (val : Value) :
    ∃ o, (Instr.mapUpdate t (.map (some b)) key val).run P w = .ok () (w.putObj b o) ∧ MapIs P k (w.putObj b o) b (fun x => if x = key then some val else F x) := by
  have hlt := h.lt
  obtain ⟨es, clock, hb, hks, hd, hF⟩ := h
  rcases K.find w hkey es.toList hks with ⟨hrun, hne⟩ | ⟨j, e0, hrun, hj, hk⟩
  · refine ⟨.map (es.push { key, val, born := clock }) (clock + 1), ?_, _, _, World.putObj_heap_same hlt, ?_, ?_, ?_⟩
    · simp [Instr.mapUpdate, Sem.run_bind, run_underlying ht, getObj, setObj, Sem.run, hb, Result.andThen, K.check w _ hkey, hrun, World.putObj]
    · intro e he
      simp only [Array.toList_push, List.mem_append, List.mem_singleton] at he
      rcases he with he | rfl
      · exact hks e he
      · exact ⟨kl, hkey⟩
    · simp only [Array.toList_push]
      rw [List.pairwise_append]
      refine ⟨hd, by simp, fun a ha c hc => ?_⟩
      simp only [List.mem_singleton] at hc
      subst hc
      exact hne a ha
    · intro x v
      simp only [Array.toList_push, List.mem_append, List.mem_singleton]
      by_cases hx : x = key
      · subst hx
        simp only [if_true, Option.some.injEq]
        constructor
        · rintro rfl
          exact ⟨_, .inr rfl, rfl, rfl⟩
        · rintro ⟨e, he | rfl, h1, h2⟩
          · exact absurd h1 (hne e he)
          · exact h2
      · show (if x = key then _ else F x) = some v ↔ _
        rw [if_neg hx, hF]
        constructor
        · rintro ⟨e, he, h1, h2⟩
          exact ⟨e, .inl he, h1, h2⟩
        · rintro ⟨e, he | rfl, h1, h2⟩
          · exact ⟨e, he, h1, h2⟩
          · exact absurd h1.symm hx
  · have hjlt : j < es.size := by
      have := (List.getElem?_eq_some_iff.1 hj).1
      simpa using this
    have hej : es[j]? = some e0 := by simpa using hj
    have hst : (Instr.keyThatStays e0.key key).run P w = .ok key w := by rw [hk]; exact K.stays w hkey
    refine ⟨.map (es.modify j fun e => { e with key, val }) clock, ?_, _, _, World.putObj_heap_same hlt, ?_, ?_, ?_⟩
    · simp [Instr.mapUpdate, Sem.run_bind, run_underlying ht, getObj, setObj, Sem.run, hb, Result.andThen, K.check w _ hkey, hrun, hej, hst, World.putObj]
    · intro e he
      obtain ⟨i, hi⟩ := List.getElem?_of_mem he
      simp only [Array.getElem?_toList, Array.getElem?_modify] at hi
      split at hi
      · simp only [Option.map_eq_some_iff] at hi
        obtain ⟨x, _, rfl⟩ := hi
        exact ⟨kl, hkey⟩
      · exact hks e (List.mem_of_getElem? (by simpa using hi))
    · rw [List.pairwise_iff_getElem] at hd ⊢
      intro i i' hi hi' hlt'
      simp only [Array.length_toList, Array.size_modify] at hi hi'
      simp only [Array.getElem_toList, Array.getElem_modify]
      have hkk : ∀ m (hm : m < es.size), (if j = m then { es[m] with key := key, val := val } else es[m]).key = es[m].key := by
        intro m hm
        split
        · rename_i hjm
          subst hjm
          have : es[j] = e0 := by simpa [Array.getElem?_eq_getElem hm] using hej
          rw [this]
          exact hk.symm
        · rfl
      rw [hkk i hi, hkk i' hi']
      have := hd i i' (by simpa using hi) (by simpa using hi') hlt'
      simpa using this
    · intro x v
      have hmem : ∀ e, e ∈ (es.modify j fun e => { e with key, val }).toList ↔ (∃ i, i ≠ j ∧ es[i]? = some e) ∨ e = { e0 with key, val } := by
        intro e
        constructor
        · intro he
          obtain ⟨i, hi⟩ := List.getElem?_of_mem he
          simp only [Array.getElem?_toList, Array.getElem?_modify] at hi
          split at hi
          · rename_i hji
            subst hji
            rw [hej] at hi
            simp at hi
            exact .inr hi.symm
          · rename_i hji
            exact .inl ⟨i, fun e => hji e.symm, hi⟩
        · rintro (⟨i, hne, hi⟩ | rfl)
          · refine List.mem_of_getElem? (i := i) ?_
            simp only [Array.getElem?_toList, Array.getElem?_modify]
            rw [if_neg (fun e => hne e.symm)]
            exact hi
          · refine List.mem_of_getElem? (i := j) ?_
            simp only [Array.getElem?_toList, Array.getElem?_modify]
            rw [hej]
            rfl
      by_cases hx : x = key
      · subst hx
        simp only [if_true, Option.some.injEq]
        constructor
        · rintro rfl
          exact ⟨_, (hmem _).2 (.inr rfl), rfl, rfl⟩
        · rintro ⟨e, he, h1, h2⟩
          rcases (hmem e).1 he with ⟨i, hne, hi⟩ | rfl
          · exact absurd (pairwise_key_inj hd (by simpa using hi) hj (h1.trans hk.symm)) hne
          · exact h2
      · show (if x = key then _ else F x) = some v ↔ _
        rw [if_neg hx, hF]
        constructor
        · rintro ⟨e, he, h1, h2⟩
          refine ⟨e, (hmem e).2 (.inl ?_), h1, h2⟩
          obtain ⟨i, hi⟩ := List.getElem?_of_mem he
          refine ⟨i, fun hij => ?_, by simpa using hi⟩
          subst hij
          rw [hj] at hi
          cases hi
          exact hx (h1.symm.trans hk)
        · rintro ⟨e, he, h1, h2⟩
          rcases (hmem e).1 he with ⟨i, _, hi⟩ | rfl
          · exact ⟨e, List.mem_of_getElem? (i := i) (by simpa using hi), h1, h2⟩
          · exact absurd h1.symm hx

open Classical in
theorem MapIs.delete (h : MapIs P k w b F) (K : Maps.Keyed P k) {t e : TypeId} (ht : P.underlying t = some (.map k e)) {key : Value} {kl : Lit} (hkey : keyOf P k key = some kl) (t2 ty : TypeId) :
    ∃ o, (Builtin.delete_ #[t, t2] ty #[.map (some b), key]).run P w = .ok (.tuple #[]) (w.putObj b o) ∧ MapIs P k (w.putObj b o) b (fun x => if x = key then none else F x) := by
  have hlt := h.lt
  obtain ⟨es, clock, hb, hks, hd, hF⟩ := h
  rcases K.find w hkey es.toList hks with ⟨hrun, hne⟩ | ⟨j, e0, hrun, hj, hk⟩
  · refine ⟨.map es clock, ?_, _, _, World.putObj_heap_same hlt, hks, hd, ?_⟩
    · simp [Builtin.delete_, Sem.run_bind, run_underlying ht, getObj, setObj, Sem.run, hb, Result.andThen, K.check w _ hkey, hrun, World.putObj]
    · intro x v
      by_cases hx : x = key
      · subst hx
        simp only [if_true]
        constructor
        · intro h; cases h
        · rintro ⟨e, he, h1, _⟩
          exact absurd h1 (hne e he)
      · show (if x = key then _ else F x) = some v ↔ _
        rw [if_neg hx, hF]
  · have hjlt : j < es.size := by
      have := (List.getElem?_eq_some_iff.1 hj).1
      simpa using this
    refine ⟨.map (es.eraseIdxIfInBounds j) clock, ?_, _, _, World.putObj_heap_same hlt, ?_, ?_, ?_⟩
    · simp [Builtin.delete_, Sem.run_bind, run_underlying ht, getObj, setObj, Sem.run, hb, Result.andThen, K.check w _ hkey, hrun, World.putObj]
    all_goals simp only [Array.eraseIdxIfInBounds, dif_pos hjlt, Array.toList_eraseIdx]
    · intro e he
      exact hks e (List.mem_of_mem_eraseIdx he)
    · exact hd.sublist (List.eraseIdx_sublist _ _)
    · intro x v
      have hmem : ∀ e, e ∈ es.toList.eraseIdx j ↔ ∃ i, i ≠ j ∧ es.toList[i]? = some e := by
        intro e
        rw [List.mem_eraseIdx_iff_getElem?]
      by_cases hx : x = key
      · subst hx
        simp only [if_true]
        constructor
        · intro h; cases h
        · rintro ⟨e, he, h1, _⟩
          obtain ⟨i, hne, hi⟩ := (hmem e).1 he
          exact absurd (pairwise_key_inj hd hi hj (h1.trans hk.symm)) hne
      · show (if x = key then _ else F x) = some v ↔ _
        rw [if_neg hx, hF]
        constructor
        · rintro ⟨e, he, h1, h2⟩
          refine ⟨e, (hmem e).2 ?_, h1, h2⟩
          obtain ⟨i, hi⟩ := List.getElem?_of_mem he
          refine ⟨i, fun hij => ?_, hi⟩
          subst hij
          rw [hj] at hi
          cases hi
          exact hx (h1.symm.trans hk)
        · rintro ⟨e, he, h1, h2⟩
          obtain ⟨i, _, hi⟩ := (hmem e).1 he
          exact ⟨e, List.mem_of_getElem? hi, h1, h2⟩
end

theorem Frm.putObj {S : Nat → Prop} (w : World) (b : Nat) (o : Obj) (h : S b) : Frm S w (w.putObj b o) :=
  ⟨rfl, rfl, rfl, by simp, fun k _ hn => World.putObj_heap_other fun e => hn (e ▸ h)⟩
end Go.Lf
