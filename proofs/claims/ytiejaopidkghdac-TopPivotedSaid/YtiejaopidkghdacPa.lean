/- Small functions of package pivot: heights, what a stack is in memory. -/
import Derived.Test.YtiejaopidkghdacProg
import Derived.Test.YtiejaopidkghdacKj
import Derived.WalkKit
import Derived.WalkSpells
import Derived.Lib.Hide
namespace Go.Proofs.Ytiejaopidkghdac
set_option linter.unusedSimpArgs false
set_option linter.unusedVariables false
open Go.RowKit Go.Lf

theorem info3 : (Try.prog.info? 3).map (fun i => (i.zero, i.size, i.bytes)) = some (some (.int .i64 0), 1, 8) := by kernel_rfl
theorem mixed : Try.prog.follows .mixedOrders = true := by kernel_rfl

/-- A stack in memory: its block, the row of its heights. -/
structure SI (w : World) (sb : Nat) (base root target : Int) (lv : Value) (l : List Int) : Prop where
  blk : Blk w sb #[.int .i64 base, .int .i64 root, .int .i64 target, lv] 53
  row : Row w 3 1 lv l.length (l.map (Value.int .i64))

theorem SI.frm {S : Nat → Prop} {w w' : World} {sb : Nat} {base root target : Int} {lv : Value} {l : List Int} (h : SI w sb base root target lv l) (hf : Frm S w w') (h1 : ¬ S sb) (h2 : ∀ k, lv.ownBlock = some k → ¬ S k) : SI w' sb base root target lv l :=
  ⟨h.blk.frm hf h1, h.row.frm hf h2⟩
theorem SI.new {w w' : World} {sb : Nat} {base root target : Int} {lv : Value} {l : List Int} (h : SI w sb base root target lv l) (hf : New w w') : SI w' sb base root target lv l := h.frm hf (fun h => h) (fun _ _ h => h)

/-- The height on top; 0 if there is none. -/
def topOf (l : List Int) : Int := (l.getLast?).getD 0

noncomputable def body19 : Code := Try.f19.body.getD .skip
theorem call19 (args : Array Value) (w : World) : (callFunc 19 args).run Try.prog w = .ok (.enter 19 args) w := callFunc_enter Try.func19 (by kernel_rfl) (by kernel_rfl) args w
noncomputable def body20 : Code := Try.f20.body.getD .skip
theorem call20 (args : Array Value) (w : World) : (callFunc 20 args).run Try.prog w = .ok (.enter 20 args) w := callFunc_enter Try.func20 (by kernel_rfl) (by kernel_rfl) args w
noncomputable def body21 : Code := Try.f21.body.getD .skip
theorem call21 (args : Array Value) (w : World) : (callFunc 21 args).run Try.prog w = .ok (.enter 21 args) w := callFunc_enter Try.func21 (by kernel_rfl) (by kernel_rfl) args w
theorem is_any (h : Int) (w : World) : CallsV Try.prog 19 #[.int .i64 h] w fun v w' => v = .bool (decide (1 ≤ h ∧ h ≤ 1073741824)) ∧ w' = w := by
  refine calls_at body19 Try.func19 rfl 9 rfl (by simp) fun s hs hds => ?_
  have h0 := hs 0 _ rfl
  clear hs
  by_cases d : 1 ≤ h
  · refine at_seq rfl fun K1 hK1 => ?_
    (conv => arg 4; whnf)
    refine fw_region_lit rfl ?_
    simp [go_sem, opsF, opF, upF, Region.wanted, Fr.ev, Fr.put, thenE, inBlockE, Oper.semAt, yieldF, h0, d]
    refine on_kf hK1 [(0, _)] (fa_cons h0 fa_nil) hds ?_
    clear hK1 h0 hds; intro s hs hds
    have h0 : s.t 0 = _ := hs (0, _) (List.mem_singleton_self _); clear hs
    refine at_seq rfl fun K2 hK2 => ?_
    (conv => arg 4; whnf)
    refine fw_region_lit rfl ?_
    simp [go_sem, opsF, opF, upF, Region.wanted, Fr.ev, Fr.put, thenE, inBlockE, Oper.semAt, yieldF, h0, d]
    refine on_kf hK2 [(2, _)] (fa_cons (by simp [h0, d] <;> rfl) fa_nil) hds ?_
    clear hK2 h0 hds; intro s hs hds
    have h2 : s.t 2 = _ := hs (2, _) (List.mem_singleton_self _); clear hs
    refine at_ret rfl ?_
    try simp only [inBlockE, thenE]
    refine ret_one rfl hds ⟨?_, rfl⟩
    rw [h2]; simp [d]
  · refine at_seq rfl fun K3 hK3 => ?_
    (conv => arg 4; whnf)
    refine fw_region_lit rfl ?_
    simp [go_sem, opsF, opF, upF, Region.wanted, Fr.ev, Fr.put, thenE, inBlockE, Oper.semAt, yieldF, h0, d]
    refine on_kf hK3 [(0, _)] (fa_cons h0 fa_nil) hds ?_
    clear hK3 h0 hds; intro s hs hds
    have h0 : s.t 0 = _ := hs (0, _) (List.mem_singleton_self _); clear hs
    refine at_seq rfl fun K4 hK4 => ?_
    (conv => arg 4; whnf)
    refine fw_region_lit rfl ?_
    simp [go_sem, opsF, opF, upF, Region.wanted, Fr.ev, Fr.put, thenE, inBlockE, Oper.semAt, yieldF, h0, d]
    refine on_kf hK4 [(2, _)] (fa_cons (by simp [h0, d] <;> rfl) fa_nil) hds ?_
    clear hK4 h0 hds; intro s hs hds
    have h2 : s.t 2 = _ := hs (2, _) (List.mem_singleton_self _); clear hs
    refine at_ret rfl ?_
    try simp only [inBlockE, thenE]
    refine ret_one rfl hds ⟨?_, rfl⟩
    rw [h2]; simp [d]

theorem none_nil (w : World) : CallsV Try.prog 20 #[.pointer none] w fun v w' => v = .bool true ∧ w' = w := by
  refine calls_at body20 Try.func20 rfl 12 rfl (by simp) fun s hs hds => ?_
  have h0 := hs 0 _ rfl
  clear hs
  refine at_seq rfl fun K5 hK5 => ?_
  (conv => arg 4; whnf)
  refine fw_region_lit rfl ?_
  simp [go_sem, opsF, opF, upF, Region.wanted, Fr.ev, Fr.put, thenE, inBlockE, Oper.semAt, yieldF, h0]
  refine on_kf hK5 [(0, _)] (fa_cons h0 fa_nil) hds ?_
  clear hK5 h0 hds; intro s hs hds
  have h0 : s.t 0 = _ := hs (0, _) (List.mem_singleton_self _); clear hs
  refine at_seq rfl fun K6 hK6 => ?_
  (conv => arg 4; whnf)
  refine fw_region_lit rfl ?_
  simp [go_sem, opsF, opF, upF, Region.wanted, Fr.ev, Fr.put, thenE, inBlockE, Oper.semAt, yieldF, h0]
  refine on_kf hK6 [(2, _)] (fa_cons (by simp [h0] <;> rfl) fa_nil) hds ?_
  clear hK6 h0 hds; intro s hs hds
  have h2 : s.t 2 = _ := hs (2, _) (List.mem_singleton_self _); clear hs
  refine at_ret rfl ?_
  try simp only [inBlockE, thenE]
  refine ret_one rfl hds ⟨?_, rfl⟩
  rw [h2]

theorem none_no (sb : Nat) (base root target : Int) (lv : Value) (l : List Int) (w : World) (h : SI w sb base root target lv l) (hr : 1 ≤ root) : CallsV Try.prog 20 #[.pointer (some ⟨sb, 0, none⟩)] w fun v w' => v = .bool false ∧ w' = w := by
  have x1 : w.cell? ⟨sb, 1, none⟩ = some (.int .i64 root) := h.blk.cell 1
  have d : (root == 0) = false := by simp; omega
  refine calls_at body20 Try.func20 rfl 12 rfl (by simp) fun s hs hds => ?_
  have h0 := hs 0 _ rfl
  clear hs
  refine at_seq rfl fun K7 hK7 => ?_
  (conv => arg 4; whnf)
  refine fw_region_lit rfl ?_
  simp [go_sem, opsF, opF, upF, Region.wanted, Fr.ev, Fr.put, thenE, inBlockE, Oper.semAt, yieldF, h0, x1, d]
  refine on_kf hK7 [(0, _)] (fa_cons h0 fa_nil) hds ?_
  clear hK7 h0 hds; intro s hs hds
  have h0 : s.t 0 = _ := hs (0, _) (List.mem_singleton_self _); clear hs
  refine at_seq rfl fun K8 hK8 => ?_
  (conv => arg 4; whnf)
  refine fw_region_lit rfl ?_
  simp [go_sem, opsF, opF, upF, Region.wanted, Fr.ev, Fr.put, thenE, inBlockE, Oper.semAt, yieldF, h0, x1, d]
  refine on_kf hK8 [(2, _)] (fa_cons (by simp [h0, x1, d] <;> rfl) fa_nil) hds ?_
  clear hK8 h0 hds; intro s hs hds
  have h2 : s.t 2 = _ := hs (2, _) (List.mem_singleton_self _); clear hs
  refine at_ret rfl ?_
  try simp only [inBlockE, thenE]
  refine ret_one rfl hds ⟨?_, rfl⟩
  rw [h2]

theorem top_no (sb : Nat) (w : World) (cap : Nat) (ad : Option Addr) (x3 : w.cell? ⟨sb, 3, none⟩ = some (.slice ad 0 cap)) : CallsV Try.prog 21 #[.pointer (some ⟨sb, 3, none⟩)] w fun v w' => v = .tuple #[.int .i64 0, .bool false] ∧ w' = w := by
  refine calls_at body21 Try.func21 rfl 20 rfl (by simp) fun s hs hds => ?_
  have h0 := hs 0 _ rfl
  clear hs
  refine at_seq rfl fun K9 hK9 => ?_
  (conv => arg 4; whnf)
  refine fw_region_lit rfl ?_
  simp [go_sem, opsF, opF, upF, Region.wanted, Fr.ev, Fr.put, thenE, inBlockE, Oper.semAt, yieldF, h0, x3]
  refine on_kf hK9 [(0, _), (2, _)] (fa_cons h0 (fa_cons (by simp [h0, x3] <;> rfl) fa_nil)) hds ?_
  clear hK9 h0 hds; intro s hs hds
  obtain ⟨h0, h2⟩ := facts2 hs; clear hs
  refine at_seq rfl fun K10 hK10 => ?_
  refine at_seq rfl fun K11 hK11 => ?_
  (conv => arg 4; whnf)
  refine fw_region_lit rfl ?_
  simp [go_sem, opsF, opF, upF, Region.wanted, Fr.ev, Fr.put, thenE, inBlockE, Oper.semAt, yieldF, h0, h2, x3]
  refine on_kf hK11 [(0, _), (2, _), (8, _)] (fa_cons h0 (fa_cons h2 (fa_cons (by simp [h0, h2, x3] <;> rfl) fa_nil))) hds ?_
  clear hK11 h0 h2 hds; intro s hs hds
  obtain ⟨h0, h2, h8⟩ := facts3 hs; clear hs
  refine at_true 8 rfl h8 ?_
  refine at_seq rfl fun K12 hK12 => ?_
  (conv => arg 4; whnf)
  refine fw_region_lit rfl ?_
  simp [go_sem, opsF, opF, upF, Region.wanted, Fr.ev, Fr.put, thenE, inBlockE, Oper.semAt, yieldF, h0, h2, h8]
  refine on_kf hK12 [(2, _), (3, _)] (fa_cons (by simp [h0, h2, h8] <;> rfl) (fa_cons (by simp [h0, h2, h8] <;> rfl) fa_nil)) hds ?_
  clear hK12 h0 h2 h8 hds; intro s hs hds
  obtain ⟨h2, h3⟩ := facts2 hs; clear hs
  refine at_ret rfl ?_
  try simp only [inBlockE, thenE]
  refine ret_two rfl hds ⟨?_, rfl⟩
  rw [h2, h3]

theorem top_yes (sb : Nat) (w : World) (g cap n : Nat) (u : Int) (x3 : w.cell? ⟨sb, 3, none⟩ = some (.slice (some ⟨g, 0, none⟩) n cap)) (hn : 0 < n) (hm : n ≤ cap ∧ cap ≤ 9223372036854775807) (xu : w.cell? ⟨g, n - 1, none⟩ = some (.int .i64 u)) :
    CallsV Try.prog 21 #[.pointer (some ⟨sb, 3, none⟩)] w fun v w' => v = .tuple #[.int .i64 u, .bool true] ∧ w'.heap = w.heap ∧ New w w' := by
  refine calls_at body21 Try.func21 rfl 20 rfl (by simp) fun s hs hds => ?_
  have h0 := hs 0 _ rfl
  clear hs
  have d : ((n : Int) == 0) = false := by simp; omega
  have d2 : IntKind.i64.wrap ((n : Int) - 1) = (n : Int) - 1 := IntWalk.i64_in _ (by omega)
  have d3 : 1 ≤ (n : Int) := by omega
  have d5 : (n : Int) - 1 < (n : Int) := by omega
  have d4 : ((n : Int) - 1).toNat = n - 1 := by omega
  refine at_seq rfl fun K13 hK13 => ?_
  (conv => arg 4; whnf)
  refine fw_region_lit rfl ?_
  simp [go_sem, opsF, opF, upF, Region.wanted, Fr.ev, Fr.put, thenE, inBlockE, Oper.semAt, yieldF, h0, x3, d]
  refine on_kf hK13 [(0, _), (2, _)] (fa_cons h0 (fa_cons (by simp [h0, x3, d] <;> rfl) fa_nil)) hds ?_
  clear hK13 h0 hds; intro s hs hds
  obtain ⟨h0, h2⟩ := facts2 hs; clear hs
  refine at_seq rfl fun K14 hK14 => ?_
  refine at_seq rfl fun K15 hK15 => ?_
  (conv => arg 4; whnf)
  refine fw_region_lit rfl ?_
  simp [go_sem, opsF, opF, upF, Region.wanted, Fr.ev, Fr.put, thenE, inBlockE, Oper.semAt, yieldF, h0, h2, x3, d]
  refine on_kf hK15 [(0, _), (2, _), (8, _)] (fa_cons h0 (fa_cons h2 (fa_cons (by simp [h0, h2, x3, d] <;> rfl) fa_nil))) hds ?_
  clear hK15 h0 h2 hds; intro s hs hds
  obtain ⟨h0, h2, h8⟩ := facts3 hs; clear hs
  refine at_false 8 rfl h8 ?_
  refine at_skip rfl ?_
  try simp only [inBlockE, thenE]
  refine hK14 _ _ ?_
  clear hK14
  refine at_seq rfl fun K16 hK16 => ?_
  (conv => arg 4; whnf)
  refine draw_still mixed (by kernel_rfl) rfl fun wd hwd hnd => ?_
  have x3 := (cell_heap hwd _).trans x3
  have xu := (cell_heap hwd _).trans xu
  simp [go_sem, stillsF, stillUpF, Region.wanted, Fr.ev, Fr.put, thenE, inBlockE, yieldF, h0, h2, h8, x3, d2, d3, d4, d5, xu]
  refine on_kf hK16 [(2, _), (3, _)] (fa_cons (by simp [h0, h2, h8] <;> rfl) (fa_cons (by simp [h0, h2, h8] <;> rfl) fa_nil)) hds ?_
  clear hK16 h0 h2 h8 hds; intro s hs hds
  obtain ⟨h2, h3⟩ := facts2 hs; clear hs
  refine at_ret rfl ?_
  try simp only [inBlockE, thenE]
  refine ret_two rfl hds ⟨?_, hwd, hnd⟩
  rw [h2, h3]

/-- What a pull, a push, a look at the top find. -/
theorem SI.val {w : World} {sb : Nat} {base root target : Int} {lv : Value} {l : List Int} (h : SI w sb base root target lv l) : (l = [] ∧ ∃ ad cap, lv = .slice ad 0 cap) ∨
    ∃ g cap, lv = .slice (some ⟨g, 0, none⟩) l.length cap ∧ 0 < l.length ∧ l.length ≤ cap ∧ cap ≤ 9223372036854775807 ∧ w.cell? ⟨g, l.length - 1, none⟩ = some (.int .i64 (topOf l)) := by
  rcases h.row.val with ⟨hv, hn, hx⟩ | ⟨g, cap, hv, h1, h2⟩
  · refine .inl ⟨by simpa using hx, _, _, hv⟩
  · by_cases hl : l = []
    · subst hl
      exact .inl ⟨rfl, _, _, hv⟩
    · refine .inr ⟨g, cap, hv, by have := List.length_pos_iff.2 hl; omega, h1, h2, ?_⟩
      subst hv
      refine h.row.cell ?_
      have hpos := List.length_pos_iff.2 hl
      rw [List.getElem?_map, topOf, List.getLast?_eq_getElem?]
      rw [List.getElem?_eq_getElem (by omega)]
      simp

theorem top_any (sb : Nat) (base root target : Int) (lv : Value) (l : List Int) (w : World) (h : SI w sb base root target lv l) :
    CallsV Try.prog 21 #[.pointer (some ⟨sb, 3, none⟩)] w fun v w' => v = .tuple #[.int .i64 (topOf l), .bool (decide (l ≠ []))] ∧ w'.heap = w.heap ∧ New w w' := by
  have x3 : w.cell? ⟨sb, 3, none⟩ = some lv := h.blk.cell 3
  rcases h.val with ⟨rfl, ad, cap, rfl⟩ | ⟨g, cap, rfl, h1, h2, h3, h4⟩
  · refine (top_no sb w cap ad x3).on ?_
    rintro v w' ⟨rfl, rfl⟩
    exact ⟨rfl, rfl, Frm.refl _ _⟩
  · refine (top_yes sb w g cap l.length (topOf l) x3 h1 ⟨h2, h3⟩ h4).on ?_
    rintro v w' ⟨rfl, h5, h6⟩
    have hl : l ≠ [] := List.length_pos_iff.1 h1
    exact ⟨by simp [hl], h5, h6⟩

noncomputable def body22 : Code := Try.f22.body.getD .skip
theorem call22 (args : Array Value) (w : World) : (callFunc 22 args).run Try.prog w = .ok (.enter 22 args) w := callFunc_enter Try.func22 (by kernel_rfl) (by kernel_rfl) args w
theorem push_any (sb : Nat) (base root target : Int) (lv : Value) (l : List Int) (x : Int) (w : World) (h : SI w sb base root target lv l) (hl : l.length ≤ 100000) :
    CallsV Try.prog 22 #[.pointer (some ⟨sb, 3, none⟩), .int .i64 x] w fun v w' => v = .tuple #[] ∧ ∃ lv', SI w' sb base root target lv' (l ++ [x]) ∧ Frm (fun b => b = sb ∨ lv.ownBlock = some b) w w' ∧ ∀ k, lv'.ownBlock = some k → lv.ownBlock = some k ∨ w.heap.size ≤ k := by
  have x3 : w.cell? ⟨sb, 3, none⟩ = some lv := h.blk.cell 3
  obtain ⟨ad, cap, rfl⟩ : ∃ ad cap, lv = .slice ad l.length cap := by
    rcases h.row.val with ⟨h, h', _⟩ | ⟨g, cap, h, _⟩
    · exact ⟨none, 0, by rw [h, h']⟩
    · exact ⟨_, cap, h⟩
  have hne : Value.ownBlock (.slice ad l.length cap) ≠ some sb := by
    intro e
    obtain ⟨cur, hc⟩ := h.row.obj e
    have hb : w.heap[sb]? = _ := h.blk
    rw [hc] at hb; cases hb
  have hA := Frm.alloc (fun _ => False) w (.cells #[.int .i64 x] 3)
  obtain ⟨v', w1, hap, hrow1, hfr1, _, hown1⟩ := (h.row.frm hA (fun _ _ h => h)).append (P := Try.prog) (t := 51) (ty := 51) Try.underlying51 info3 rfl (by decide) ⟨w.heap.size, 0, none⟩ 1 1 [.int .i64 x] rfl
    (new_cells w [.int .i64 x] 3) (by simp [Value.oneCell']) (by unfold maxLen; omega) (by omega)
  have hB1 := (h.blk.frm hA (fun h => h)).frm hfr1 hne
  have y3 := hB1.cell 3
  have f3 := hB1.frozen 3
  obtain ⟨g', cap', rfl⟩ : ∃ g' cap', v' = .slice (some ⟨g', 0, none⟩) (l.length + 1) cap' := by
    rcases hrow1.val with ⟨_, h, _⟩ | ⟨g, cap, h, _⟩
    · omega
    · exact ⟨g, cap, h⟩
  have hne' : ¬ g' = sb := by
    intro e
    obtain ⟨cur, hc⟩ := hrow1.obj (g := g') rfl
    have hb : w1.heap[sb]? = _ := hB1
    rw [e] at hc
    rw [hc] at hb; cases hb
  have hset := Frm.setCell (S := fun k => k = sb) w1 ⟨sb, 3, none⟩ (.slice (some ⟨g', 0, none⟩) (l.length + 1) cap') rfl
  refine calls_at body22 Try.func22 rfl 12 rfl (by simp) fun s hs hds => ?_
  have h0 := hs 0 _ rfl
  have h1 := hs 1 _ rfl
  clear hs
  (conv => arg 4; whnf)
  refine fw_region_lit rfl ?_
  refine ops_take 6 fun KO hKO => ?_
  simp [go_sem, opsF, opF, upF, Region.wanted, Fr.ev, Fr.put, thenE, inBlockE, Oper.semAt, yieldF, h0, h1, x3]
  refine hKO _ _ ?_
  clear hKO
  refine ops_append rfl rfl rfl (v := .slice ad l.length cap) (u := .slice (some ⟨w.heap.size, 0, none⟩) 1 1) (by simp [Fr.ev]) (by simp [Fr.ev]) hap ?_
  try simp [go_sem, opsF, opF, upF, Region.wanted, Fr.ev, Fr.put, thenE, inBlockE, Oper.semAt, yieldF, h0, h1, y3, f3]
  refine end_none rfl hds ⟨rfl, _, ⟨hB1.set 3 _, ?_⟩, ?_, ?_⟩
  · have := hrow1.frm hset (fun k hk e => hne' (by cases hk; exact e))
    simpa using this
  · exact (hA.comp hfr1 (T := fun b => b = sb ∨ Value.ownBlock (.slice ad l.length cap) = some b) (fun _ _ h => h.elim) (fun _ _ h => .inr h)).comp hset (fun _ _ h => h) (fun _ _ h => .inl h)
  · intro k hk
    rcases hown1 k hk with h | ⟨h, _⟩
    · exact .inl h
    · exact .inr (by simp at h; omega)
end Go.Proofs.Ytiejaopidkghdac
