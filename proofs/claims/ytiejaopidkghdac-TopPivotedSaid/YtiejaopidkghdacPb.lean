/- The stack: pull, Done, Base, Top; pivots, depths. -/
import Derived.Test.YtiejaopidkghdacPa
namespace Go.Proofs.Ytiejaopidkghdac
set_option linter.unusedSimpArgs false
set_option linter.unusedVariables false
open Go.RowKit Go.Lf

noncomputable def body23 : Code := Try.f23.body.getD .skip
theorem call23 (args : Array Value) (w : World) : (callFunc 23 args).run Try.prog w = .ok (.enter 23 args) w := callFunc_enter Try.func23 (by kernel_rfl) (by kernel_rfl) args w
theorem pull_any (sb : Nat) (base root target : Int) (lv : Value) (l : List Int) (w : World) (h : SI w sb base root target lv l) :
    CallsV Try.prog 23 #[.pointer (some ⟨sb, 3, none⟩)] w fun v w' => v = .tuple #[.int .i64 (topOf l), .bool (decide (l ≠ []))] ∧ ∃ lv', SI w' sb base root target lv' l.dropLast ∧ Frm (fun b => b = sb) w w' ∧ lv'.ownBlock = lv.ownBlock := by
  rcases h.val with ⟨rfl, ad, cap, rfl⟩ | ⟨g, cap, rfl, h1, h2, h3, h4⟩
  · refine calls_at body23 Try.func23 rfl 23 rfl (by simp) fun s hs hds => ?_
    have h0 := hs 0 _ rfl
    clear hs
    refine at_seq rfl fun K1 hK1 => ?_
    (conv => arg 4; whnf)
    refine fw_region_lit rfl ?_
    simp [go_sem, opsF, opF, upF, Region.wanted, Fr.ev, Fr.put, thenE, inBlockE, Oper.semAt, yieldF, h0]
    refine on_kf hK1 [(0, _)] (fa_cons h0 fa_nil) hds ?_
    clear hK1 h0 hds; intro s hs hds
    have h0 : s.t 0 = _ := hs (0, _) (List.mem_singleton_self _); clear hs
    refine at_seq rfl fun K2 hK2 => ?_
    refine at_seq rfl fun K3 hK3 => ?_
    (conv => arg 4; whnf)
    refine fw_region_lit rfl ?_
    refine ops_take 1 fun KO hKO => ?_
    simp [go_sem, opsF, opF, upF, Region.wanted, Fr.ev, Fr.put, thenE, inBlockE, Oper.semAt, yieldF, h0]
    refine hKO _ _ ?_
    clear hKO
    simp only [List.drop_succ_cons, List.drop_zero]
    refine ops_call rfl rfl rfl call21 (by simp [Fr.ev, h0] <;> rfl) ?_
    refine (top_any sb base root target _ [] w h).on ?_
    rintro _ w1 ⟨rfl, hw1, hn1⟩
    simp [go_sem, opsF, opF, upF, Region.wanted, Fr.ev, Fr.put, thenE, inBlockE, Oper.semAt, yieldF, h0]
    refine on_kf hK3 [(0, _), (2, _), (3, _)] (fa_cons h0 (fa_cons (by simp [h0] <;> rfl) (fa_cons (by simp [h0] <;> rfl) fa_nil))) hds ?_
    clear hK3 h0 hds; intro s hs hds
    obtain ⟨h0, h2, h3⟩ := facts3 hs; clear hs
    refine at_seq rfl fun K4 hK4 => ?_
    (conv => arg 4; whnf)
    refine fw_region_lit rfl ?_
    simp [go_sem, opsF, opF, upF, Region.wanted, Fr.ev, Fr.put, thenE, inBlockE, Oper.semAt, yieldF, h0, h2, h3]
    refine on_kf hK4 [(0, _), (2, _), (3, _), (9, _)] (fa_cons h0 (fa_cons h2 (fa_cons h3 (fa_cons (by simp [h0, h2, h3] <;> rfl) fa_nil)))) hds ?_
    clear hK4 h0 h2 h3 hds; intro s hs hds
    obtain ⟨h0, h2, h3, h9⟩ := facts4 hs; clear hs
    refine at_false 9 rfl h9 ?_
    refine at_skip rfl ?_
    try simp only [inBlockE, thenE]
    refine hK2 _ _ ?_
    clear hK2
    refine at_seq rfl fun K5 hK5 => ?_
    (conv => arg 4; whnf)
    refine fw_region_lit rfl ?_
    simp [go_sem, opsF, opF, upF, Region.wanted, Fr.ev, Fr.put, thenE, inBlockE, Oper.semAt, yieldF, h0, h2, h3, h9]
    refine on_kf hK5 [(2, _), (3, _)] (fa_cons (by simp [h0, h2, h3, h9] <;> rfl) (fa_cons (by simp [h0, h2, h3, h9] <;> rfl) fa_nil)) hds ?_
    clear hK5 h0 h2 h3 h9 hds; intro s hs hds
    obtain ⟨h2, h3⟩ := facts2 hs; clear hs
    refine at_ret rfl ?_
    try simp only [inBlockE, thenE]
    refine ret_two rfl hds ⟨by rw [h2, h3]; simp, _, h.new hn1, hn1.mono (fun _ _ h => h.elim), rfl⟩
  · have hl : l ≠ [] := List.length_pos_iff.1 h1
    refine calls_at body23 Try.func23 rfl 23 rfl (by simp) fun s hs hds => ?_
    have h0 := hs 0 _ rfl
    clear hs
    refine at_seq rfl fun K6 hK6 => ?_
    (conv => arg 4; whnf)
    refine fw_region_lit rfl ?_
    simp [go_sem, opsF, opF, upF, Region.wanted, Fr.ev, Fr.put, thenE, inBlockE, Oper.semAt, yieldF, h0]
    refine on_kf hK6 [(0, _)] (fa_cons h0 fa_nil) hds ?_
    clear hK6 h0 hds; intro s hs hds
    have h0 : s.t 0 = _ := hs (0, _) (List.mem_singleton_self _); clear hs
    refine at_seq rfl fun K7 hK7 => ?_
    refine at_seq rfl fun K8 hK8 => ?_
    (conv => arg 4; whnf)
    refine fw_region_lit rfl ?_
    refine ops_take 1 fun KO hKO => ?_
    simp [go_sem, opsF, opF, upF, Region.wanted, Fr.ev, Fr.put, thenE, inBlockE, Oper.semAt, yieldF, h0]
    refine hKO _ _ ?_
    clear hKO
    simp only [List.drop_succ_cons, List.drop_zero]
    refine ops_call rfl rfl rfl call21 (by simp [Fr.ev, h0] <;> rfl) ?_
    refine (top_any sb base root target _ l w h).on ?_
    rintro _ w1 ⟨rfl, hw1, hn1⟩
    have hS1 := h.new hn1
    have x3 := hS1.blk.cell 3
    have f3 := hS1.blk.frozen 3
    have d2 : IntKind.i64.wrap ((l.length : Int) - 1) = (l.length : Int) - 1 := IntWalk.i64_in _ (by omega)
    have d3 : 1 ≤ (l.length : Int) := by omega
    have d4 : ((l.length : Int) - 1).toNat = l.length - 1 := by omega
    have d5 : (l.length : Int) - 1 < (l.length : Int) := by omega
    have d6 : (l.length : Int) - 1 ≤ (cap : Int) := by omega
    simp [go_sem, opsF, opF, upF, Region.wanted, Fr.ev, Fr.put, thenE, inBlockE, Oper.semAt, yieldF, h0, hl]
    refine on_kf hK8 [(0, _), (2, _), (3, _)] (fa_cons h0 (fa_cons (by simp [h0, hl] <;> rfl) (fa_cons (by simp [h0, hl] <;> rfl) fa_nil))) hds ?_
    clear hK8 h0 hds; intro s hs hds
    obtain ⟨h0, h2, h3⟩ := facts3 hs; clear hs
    refine at_seq rfl fun K9 hK9 => ?_
    (conv => arg 4; whnf)
    refine fw_region_lit rfl ?_
    simp [go_sem, opsF, opF, upF, Region.wanted, Fr.ev, Fr.put, thenE, inBlockE, Oper.semAt, yieldF, h0, h2, h3, hl]
    refine on_kf hK9 [(0, _), (2, _), (3, _), (9, _)] (fa_cons h0 (fa_cons h2 (fa_cons h3 (fa_cons (by simp [h0, h2, h3, hl] <;> rfl) fa_nil)))) hds ?_
    clear hK9 h0 h2 h3 hds; intro s hs hds
    obtain ⟨h0, h2, h3, h9⟩ := facts4 hs; clear hs
    refine at_true 9 rfl h9 ?_
    (conv => arg 4; whnf)
    refine draw_tail 10 mixed (by kernel_rfl) rfl fun wd hwd hnd => ?_
    have x3 := (cell_heap hwd _).trans x3
    have hS2 := hS1.new hnd
    have x4 := hS2.blk.cell 3
    have f4 := hS2.blk.frozen 3
    simp [go_sem, stillsF, stillUpF, Region.wanted, Fr.ev, Fr.put, thenE, inBlockE, yieldF, h0, h2, h3, h9, x3, d2, d3, d4, d5, d6]
    simp [go_sem, stillsF, stillUpF, Region.wanted, Fr.ev, Fr.put, thenE, inBlockE, yieldF, opsP, upP, h0, h2, h3, h9, x3, f4]
    refine on_kf hK7 [(2, _), (3, _)] (fa_cons h2 (fa_cons h3 fa_nil)) hds ?_
    clear hK7 h0 h2 h3 h9 hds; intro s hs hds
    obtain ⟨h2, h3⟩ := facts2 hs; clear hs
    refine at_seq rfl fun K10 hK10 => ?_
    (conv => arg 4; whnf)
    refine fw_region_lit rfl ?_
    simp [go_sem, opsF, opF, upF, Region.wanted, Fr.ev, Fr.put, thenE, inBlockE, Oper.semAt, yieldF, h2, h3]
    refine on_kf hK10 [(2, _), (3, _)] (fa_cons (by simp [h2, h3] <;> rfl) (fa_cons (by simp [h2, h3] <;> rfl) fa_nil)) hds ?_
    clear hK10 h2 h3 hds; intro s hs hds
    obtain ⟨h2, h3⟩ := facts2 hs; clear hs
    refine at_ret rfl ?_
    try simp only [inBlockE, thenE]
    have hset := Frm.setCell (S := fun k => k = sb) wd ⟨sb, 3, none⟩ (.slice (some ⟨g, 0, none⟩) (l.length - 1) cap) rfl
    have hgs : ¬ g = sb := by
      obtain ⟨cur, hc⟩ := hS2.row.obj (g := g) rfl
      exact hS2.blk.ne_obj hc (by simp)
    refine ret_two rfl hds ⟨by rw [h2, h3]; simp [hl], .slice (some ⟨g, 0, none⟩) (l.length - 1) cap, ⟨hS2.blk.set 3 _, ?_⟩, (New.trans hn1 hnd).comp hset (fun _ _ h => h.elim) (fun _ _ h => h), rfl⟩
    have hc := (hS2.row.cut (m := l.length - 1) (by omega)).frm hset (fun k hk e => hgs (by cases hk; exact e))
    rw [List.length_dropLast]
    rw [List.dropLast_eq_take, List.map_take]
    simpa using hc

noncomputable def body5 : Code := Try.f5.body.getD .skip
theorem call5 (args : Array Value) (w : World) : (callFunc 5 args).run Try.prog w = .ok (.enter 5 args) w := callFunc_enter Try.func5 (by kernel_rfl) (by kernel_rfl) args w
noncomputable def body6 : Code := Try.f6.body.getD .skip
theorem call6 (args : Array Value) (w : World) : (callFunc 6 args).run Try.prog w = .ok (.enter 6 args) w := callFunc_enter Try.func6 (by kernel_rfl) (by kernel_rfl) args w
noncomputable def body7 : Code := Try.f7.body.getD .skip
theorem call7 (args : Array Value) (w : World) : (callFunc 7 args).run Try.prog w = .ok (.enter 7 args) w := callFunc_enter Try.func7 (by kernel_rfl) (by kernel_rfl) args w
noncomputable def body16 : Code := Try.f16.body.getD .skip
theorem call16 (args : Array Value) (w : World) : (callFunc 16 args).run Try.prog w = .ok (.enter 16 args) w := callFunc_enter Try.func16 (by kernel_rfl) (by kernel_rfl) args w
noncomputable def body18 : Code := Try.f18.body.getD .skip
theorem call18 (args : Array Value) (w : World) : (callFunc 18 args).run Try.prog w = .ok (.enter 18 args) w := callFunc_enter Try.func18 (by kernel_rfl) (by kernel_rfl) args w
theorem done_nil (w : World) : CallsV Try.prog 5 #[.pointer none] w fun v w' => v = .bool true ∧ w' = w := by
  refine calls_at body5 Try.func5 rfl 13 rfl (by simp) fun s hs hds => ?_
  have h0 := hs 0 _ rfl
  clear hs
  refine at_seq rfl fun K11 hK11 => ?_
  (conv => arg 4; whnf)
  refine fw_region_lit rfl ?_
  simp [go_sem, opsF, opF, upF, Region.wanted, Fr.ev, Fr.put, thenE, inBlockE, Oper.semAt, yieldF, h0]
  refine on_kf hK11 [(0, _)] (fa_cons h0 fa_nil) hds ?_
  clear hK11 h0 hds; intro s hs hds
  have h0 : s.t 0 = _ := hs (0, _) (List.mem_singleton_self _); clear hs
  refine at_seq rfl fun K12 hK12 => ?_
  (conv => arg 4; whnf)
  refine fw_region_lit rfl ?_
  refine ops_take 1 fun KO hKO => ?_
  simp [go_sem, opsF, opF, upF, Region.wanted, Fr.ev, Fr.put, thenE, inBlockE, Oper.semAt, yieldF, h0]
  refine hKO _ _ ?_
  clear hKO
  simp only [List.drop_succ_cons, List.drop_zero]
  refine ops_call rfl rfl rfl call20 (by simp [Fr.ev, h0] <;> rfl) ?_
  refine (none_nil w).on ?_
  rintro _ w1 ⟨rfl, rfl⟩
  simp [go_sem, opsF, opF, upF, Region.wanted, Fr.ev, Fr.put, thenE, inBlockE, Oper.semAt, yieldF, h0]
  refine on_kf hK12 [(2, _)] (fa_cons (by simp [h0] <;> rfl) fa_nil) hds ?_
  clear hK12 h0 hds; intro s hs hds
  have h2 : s.t 2 = _ := hs (2, _) (List.mem_singleton_self _); clear hs
  refine at_ret rfl ?_
  try simp only [inBlockE, thenE]
  refine ret_one rfl hds ⟨by rw [h2], rfl⟩

theorem done_any (sb : Nat) (base root target : Int) (lv : Value) (l : List Int) (w : World) (h : SI w sb base root target lv l) (hr : 1 ≤ root) : CallsV Try.prog 5 #[.pointer (some ⟨sb, 0, none⟩)] w fun v w' => v = .bool (decide (l = [])) ∧ w' = w := by
  obtain ⟨ad, cap, rfl⟩ : ∃ ad cap, lv = .slice ad l.length cap := by
    rcases h.row.val with ⟨h, h', _⟩ | ⟨g, cap, h, _⟩
    · exact ⟨none, 0, by rw [h, h']⟩
    · exact ⟨_, cap, h⟩
  have x3 := h.blk.cell 3
  refine calls_at body5 Try.func5 rfl 13 rfl (by simp) fun s hs hds => ?_
  have h0 := hs 0 _ rfl
  clear hs
  refine at_seq rfl fun K13 hK13 => ?_
  (conv => arg 4; whnf)
  refine fw_region_lit rfl ?_
  simp [go_sem, opsF, opF, upF, Region.wanted, Fr.ev, Fr.put, thenE, inBlockE, Oper.semAt, yieldF, h0]
  refine on_kf hK13 [(0, _)] (fa_cons h0 fa_nil) hds ?_
  clear hK13 h0 hds; intro s hs hds
  have h0 : s.t 0 = _ := hs (0, _) (List.mem_singleton_self _); clear hs
  refine at_seq rfl fun K14 hK14 => ?_
  (conv => arg 4; whnf)
  refine fw_region_lit rfl ?_
  refine ops_take 1 fun KO hKO => ?_
  simp [go_sem, opsF, opF, upF, Region.wanted, Fr.ev, Fr.put, thenE, inBlockE, Oper.semAt, yieldF, h0]
  refine hKO _ _ ?_
  clear hKO
  simp only [List.drop_succ_cons, List.drop_zero]
  refine ops_call rfl rfl rfl call20 (by simp [Fr.ev, h0] <;> rfl) ?_
  refine (none_no sb base root target _ l w h hr).on ?_
  rintro _ w1 ⟨rfl, rfl⟩
  by_cases hl : l = []
  · subst hl
    simp [go_sem, opsF, opF, upF, Region.wanted, Fr.ev, Fr.put, thenE, inBlockE, Oper.semAt, yieldF, h0, x3]
    refine on_kf hK14 [(2, _)] (fa_cons (by simp [h0] <;> rfl) fa_nil) hds ?_
    clear hK14 h0 hds; intro s hs hds
    have h2 : s.t 2 = _ := hs (2, _) (List.mem_singleton_self _); clear hs
    refine at_ret rfl ?_
    try simp only [inBlockE, thenE]
    refine ret_one rfl hds ⟨by rw [h2]; simp, rfl⟩
  · have hp : ((l.length : Int) == 0) = false := by have := List.length_pos_iff.2 hl; simp; omega
    simp [go_sem, opsF, opF, upF, Region.wanted, Fr.ev, Fr.put, thenE, inBlockE, Oper.semAt, yieldF, h0, x3, hp]
    refine on_kf hK14 [(2, _)] (fa_cons (by simp [h0] <;> rfl) fa_nil) hds ?_
    clear hK14 h0 hds; intro s hs hds
    have h2 : s.t 2 = _ := hs (2, _) (List.mem_singleton_self _); clear hs
    refine at_ret rfl ?_
    try simp only [inBlockE, thenE]
    refine ret_one rfl hds ⟨by rw [h2]; simp [hl], rfl⟩

theorem base_nil (w : World) : CallsV Try.prog 6 #[.pointer none] w fun v w' => v = .int .i64 0 ∧ w' = w := by
  refine calls_at body6 Try.func6 rfl 9 rfl (by simp) fun s hs hds => ?_
  have h0 := hs 0 _ rfl
  clear hs
  refine at_seq rfl fun K15 hK15 => ?_
  (conv => arg 4; whnf)
  refine fw_region_lit rfl ?_
  simp [go_sem, opsF, opF, upF, Region.wanted, Fr.ev, Fr.put, thenE, inBlockE, Oper.semAt, yieldF, h0]
  refine on_kf hK15 [(0, _)] (fa_cons h0 fa_nil) hds ?_
  clear hK15 h0 hds; intro s hs hds
  have h0 : s.t 0 = _ := hs (0, _) (List.mem_singleton_self _); clear hs
  refine at_seq rfl fun K16 hK16 => ?_
  refine at_seq rfl fun K17 hK17 => ?_
  (conv => arg 4; whnf)
  refine fw_region_lit rfl ?_
  refine ops_take 1 fun KO hKO => ?_
  simp [go_sem, opsF, opF, upF, Region.wanted, Fr.ev, Fr.put, thenE, inBlockE, Oper.semAt, yieldF, h0]
  refine hKO _ _ ?_
  clear hKO
  simp only [List.drop_succ_cons, List.drop_zero]
  refine ops_call rfl rfl rfl call20 (by simp [Fr.ev, h0] <;> rfl) ?_
  refine (none_nil w).on ?_
  rintro _ w1 ⟨rfl, rfl⟩
  simp [go_sem, opsF, opF, upF, Region.wanted, Fr.ev, Fr.put, thenE, inBlockE, Oper.semAt, yieldF, h0]
  refine on_kf hK17 [(0, _), (4, _)] (fa_cons h0 (fa_cons (by simp [h0] <;> rfl) fa_nil)) hds ?_
  clear hK17 h0 hds; intro s hs hds
  obtain ⟨h0, h4⟩ := facts2 hs; clear hs
  refine at_true 4 rfl h4 ?_
  refine at_seq rfl fun K18 hK18 => ?_
  (conv => arg 4; whnf)
  refine fw_region_lit rfl ?_
  simp [go_sem, opsF, opF, upF, Region.wanted, Fr.ev, Fr.put, thenE, inBlockE, Oper.semAt, yieldF, h0, h4]
  refine on_kf hK18 [(2, _)] (fa_cons (by simp [h0, h4] <;> rfl) fa_nil) hds ?_
  clear hK18 h0 h4 hds; intro s hs hds
  have h2 : s.t 2 = _ := hs (2, _) (List.mem_singleton_self _); clear hs
  refine at_ret rfl ?_
  try simp only [inBlockE, thenE]
  refine ret_one rfl hds ⟨by rw [h2], rfl⟩

theorem base_any (sb : Nat) (base root target : Int) (lv : Value) (l : List Int) (w : World) (h : SI w sb base root target lv l) (hr : 1 ≤ root) : CallsV Try.prog 6 #[.pointer (some ⟨sb, 0, none⟩)] w fun v w' => v = .int .i64 base ∧ w' = w := by
  have x0 := h.blk.cell 0
  refine calls_at body6 Try.func6 rfl 9 rfl (by simp) fun s hs hds => ?_
  have h0 := hs 0 _ rfl
  clear hs
  refine at_seq rfl fun K19 hK19 => ?_
  (conv => arg 4; whnf)
  refine fw_region_lit rfl ?_
  simp [go_sem, opsF, opF, upF, Region.wanted, Fr.ev, Fr.put, thenE, inBlockE, Oper.semAt, yieldF, h0]
  refine on_kf hK19 [(0, _)] (fa_cons h0 fa_nil) hds ?_
  clear hK19 h0 hds; intro s hs hds
  have h0 : s.t 0 = _ := hs (0, _) (List.mem_singleton_self _); clear hs
  refine at_seq rfl fun K20 hK20 => ?_
  refine at_seq rfl fun K21 hK21 => ?_
  (conv => arg 4; whnf)
  refine fw_region_lit rfl ?_
  refine ops_take 1 fun KO hKO => ?_
  simp [go_sem, opsF, opF, upF, Region.wanted, Fr.ev, Fr.put, thenE, inBlockE, Oper.semAt, yieldF, h0]
  refine hKO _ _ ?_
  clear hKO
  simp only [List.drop_succ_cons, List.drop_zero]
  refine ops_call rfl rfl rfl call20 (by simp [Fr.ev, h0] <;> rfl) ?_
  refine (none_no sb base root target _ l w h hr).on ?_
  rintro _ w1 ⟨rfl, rfl⟩
  simp [go_sem, opsF, opF, upF, Region.wanted, Fr.ev, Fr.put, thenE, inBlockE, Oper.semAt, yieldF, h0]
  refine on_kf hK21 [(0, _), (4, _)] (fa_cons h0 (fa_cons (by simp [h0] <;> rfl) fa_nil)) hds ?_
  clear hK21 h0 hds; intro s hs hds
  obtain ⟨h0, h4⟩ := facts2 hs; clear hs
  refine at_false 4 rfl h4 ?_
  refine at_skip rfl ?_
  try simp only [inBlockE, thenE]
  refine hK20 _ _ ?_
  clear hK20
  refine at_seq rfl fun K22 hK22 => ?_
  (conv => arg 4; whnf)
  refine fw_region_lit rfl ?_
  simp [go_sem, opsF, opF, upF, Region.wanted, Fr.ev, Fr.put, thenE, inBlockE, Oper.semAt, yieldF, h0, h4, x0]
  refine on_kf hK22 [(2, _)] (fa_cons (by simp [h0, h4, x0] <;> rfl) fa_nil) hds ?_
  clear hK22 h0 h4 hds; intro s hs hds
  have h2 : s.t 2 = _ := hs (2, _) (List.mem_singleton_self _); clear hs
  refine at_ret rfl ?_
  try simp only [inBlockE, thenE]
  refine ret_one rfl hds ⟨by rw [h2], rfl⟩

theorem stop_nil (w : World) : CallsV Try.prog 7 #[.pointer none] w fun v w' => v = .int .i64 0 ∧ w' = w := by
  refine calls_at body7 Try.func7 rfl 15 rfl (by simp) fun s hs hds => ?_
  have h0 := hs 0 _ rfl
  clear hs
  refine at_seq rfl fun K23 hK23 => ?_
  (conv => arg 4; whnf)
  refine fw_region_lit rfl ?_
  simp [go_sem, opsF, opF, upF, Region.wanted, Fr.ev, Fr.put, thenE, inBlockE, Oper.semAt, yieldF, h0]
  refine on_kf hK23 [(0, _)] (fa_cons h0 fa_nil) hds ?_
  clear hK23 h0 hds; intro s hs hds
  have h0 : s.t 0 = _ := hs (0, _) (List.mem_singleton_self _); clear hs
  refine at_seq rfl fun K24 hK24 => ?_
  refine at_seq rfl fun K25 hK25 => ?_
  (conv => arg 4; whnf)
  refine fw_region_lit rfl ?_
  refine ops_take 1 fun KO hKO => ?_
  simp [go_sem, opsF, opF, upF, Region.wanted, Fr.ev, Fr.put, thenE, inBlockE, Oper.semAt, yieldF, h0]
  refine hKO _ _ ?_
  clear hKO
  simp only [List.drop_succ_cons, List.drop_zero]
  refine ops_call rfl rfl rfl call20 (by simp [Fr.ev, h0] <;> rfl) ?_
  refine (none_nil w).on ?_
  rintro _ w1 ⟨rfl, rfl⟩
  simp [go_sem, opsF, opF, upF, Region.wanted, Fr.ev, Fr.put, thenE, inBlockE, Oper.semAt, yieldF, h0]
  refine on_kf hK25 [(0, _), (6, _)] (fa_cons h0 (fa_cons (by simp [h0] <;> rfl) fa_nil)) hds ?_
  clear hK25 h0 hds; intro s hs hds
  obtain ⟨h0, h6⟩ := facts2 hs; clear hs
  refine at_true 6 rfl h6 ?_
  refine at_seq rfl fun K26 hK26 => ?_
  (conv => arg 4; whnf)
  refine fw_region_lit rfl ?_
  simp [go_sem, opsF, opF, upF, Region.wanted, Fr.ev, Fr.put, thenE, inBlockE, Oper.semAt, yieldF, h0, h6]
  refine on_kf hK26 [(2, _)] (fa_cons (by simp [h0, h6] <;> rfl) fa_nil) hds ?_
  clear hK26 h0 h6 hds; intro s hs hds
  have h2 : s.t 2 = _ := hs (2, _) (List.mem_singleton_self _); clear hs
  refine at_ret rfl ?_
  try simp only [inBlockE, thenE]
  refine ret_one rfl hds ⟨by rw [h2], rfl⟩

theorem stop_any (sb : Nat) (base root target : Int) (lv : Value) (l : List Int) (w : World) (h : SI w sb base root target lv l) (hr : 1 ≤ root) : CallsV Try.prog 7 #[.pointer (some ⟨sb, 0, none⟩)] w fun v w' => v = .int .i64 (topOf l) ∧ New w w' := by
  refine calls_at body7 Try.func7 rfl 15 rfl (by simp) fun s hs hds => ?_
  have h0 := hs 0 _ rfl
  clear hs
  refine at_seq rfl fun K27 hK27 => ?_
  (conv => arg 4; whnf)
  refine fw_region_lit rfl ?_
  simp [go_sem, opsF, opF, upF, Region.wanted, Fr.ev, Fr.put, thenE, inBlockE, Oper.semAt, yieldF, h0]
  refine on_kf hK27 [(0, _)] (fa_cons h0 fa_nil) hds ?_
  clear hK27 h0 hds; intro s hs hds
  have h0 : s.t 0 = _ := hs (0, _) (List.mem_singleton_self _); clear hs
  refine at_seq rfl fun K28 hK28 => ?_
  refine at_seq rfl fun K29 hK29 => ?_
  (conv => arg 4; whnf)
  refine fw_region_lit rfl ?_
  refine ops_take 1 fun KO hKO => ?_
  simp [go_sem, opsF, opF, upF, Region.wanted, Fr.ev, Fr.put, thenE, inBlockE, Oper.semAt, yieldF, h0]
  refine hKO _ _ ?_
  clear hKO
  simp only [List.drop_succ_cons, List.drop_zero]
  refine ops_call rfl rfl rfl call20 (by simp [Fr.ev, h0] <;> rfl) ?_
  refine (none_no sb base root target _ l w h hr).on ?_
  rintro _ w1 ⟨rfl, rfl⟩
  simp [go_sem, opsF, opF, upF, Region.wanted, Fr.ev, Fr.put, thenE, inBlockE, Oper.semAt, yieldF, h0]
  refine on_kf hK29 [(0, _), (6, _)] (fa_cons h0 (fa_cons (by simp [h0] <;> rfl) fa_nil)) hds ?_
  clear hK29 h0 hds; intro s hs hds
  obtain ⟨h0, h6⟩ := facts2 hs; clear hs
  refine at_false 6 rfl h6 ?_
  refine at_skip rfl ?_
  try simp only [inBlockE, thenE]
  refine hK28 _ _ ?_
  clear hK28
  refine at_seq rfl fun K30 hK30 => ?_
  (conv => arg 4; whnf)
  refine fw_region_lit rfl ?_
  refine ops_take 3 fun KO hKO => ?_
  simp [go_sem, opsF, opF, upF, Region.wanted, Fr.ev, Fr.put, thenE, inBlockE, Oper.semAt, yieldF, h0, h6]
  refine hKO _ _ ?_
  clear hKO
  simp only [List.drop_succ_cons, List.drop_zero]
  refine ops_call rfl rfl rfl call21 (by simp [Fr.ev, h0, h6] <;> rfl) ?_
  refine (top_any sb base root target _ l w1 h).on ?_
  rintro _ w2 ⟨rfl, hw2, hn2⟩
  simp [go_sem, opsF, opF, upF, Region.wanted, Fr.ev, Fr.put, thenE, inBlockE, Oper.semAt, yieldF, h0, h6]
  refine on_kf hK30 [(3, _)] (fa_cons (by simp [h0, h6] <;> rfl) fa_nil) hds ?_
  clear hK30 h0 h6 hds; intro s hs hds
  have h3 : s.t 3 = _ := hs (3, _) (List.mem_singleton_self _); clear hs
  refine at_seq rfl fun K31 hK31 => ?_
  (conv => arg 4; whnf)
  refine fw_region_lit rfl ?_
  simp [go_sem, opsF, opF, upF, Region.wanted, Fr.ev, Fr.put, thenE, inBlockE, Oper.semAt, yieldF, h3]
  refine on_kf hK31 [(2, _)] (fa_cons (by simp [h3] <;> rfl) fa_nil) hds ?_
  clear hK31 h3 hds; intro s hs hds
  have h2 : s.t 2 = _ := hs (2, _) (List.mem_singleton_self _); clear hs
  refine at_ret rfl ?_
  try simp only [inBlockE, thenE]
  refine ret_one rfl hds ⟨by rw [h2], hn2⟩

/-- The height between two. -/
def midOf (low high : Int) : Int := low + (high - low) / 2

theorem pivot_any (low high : Int) (w : World) (h1 : 1 ≤ low) (h2 : low < high) (h3 : high ≤ 1073741824) : CallsV Try.prog 16 #[.int .i64 low, .int .i64 high] w fun v w' => v = .tuple #[.int .i64 (midOf low high), .int .i64 0] ∧ w' = w := by
  have e1 : decide (1 ≤ low ∧ low ≤ 1073741824) = true := by simp; omega
  have e2 : decide (1 ≤ high ∧ high ≤ 1073741824) = true := by simp; omega
  have g1 := h2
  have g2 : ¬ high ≤ low := by omega
  have g3 : IntKind.i64.wrap (high - low) = high - low := IntWalk.i64_in _ (by omega)
  have g4 : Int.tdiv (high - low) 2 = (high - low) / 2 := Int.tdiv_eq_ediv_of_nonneg (by omega)
  have g5 : IntKind.i64.wrap ((high - low) / 2) = (high - low) / 2 := IntWalk.i64_in _ (by omega)
  have g6 : IntKind.i64.wrap (low + (high - low) / 2) = low + (high - low) / 2 := IntWalk.i64_in _ (by omega)
  clear h1 h2 h3
  refine calls_at body16 Try.func16 rfl 25 rfl (by simp) fun s hs hds => ?_
  have h0 := hs 0 _ rfl
  have h1 := hs 1 _ rfl
  clear hs
  refine at_seq rfl fun K32 hK32 => ?_
  (conv => arg 4; whnf)
  refine fw_region_lit rfl ?_
  simp [go_sem, opsF, opF, upF, Region.wanted, Fr.ev, Fr.put, thenE, inBlockE, Oper.semAt, yieldF, h0, h1]
  refine on_kf hK32 [(0, _), (1, _)] (fa_cons h0 (fa_cons h1 fa_nil)) hds ?_
  clear hK32 h0 h1 hds; intro s hs hds
  obtain ⟨h0, h1⟩ := facts2 hs; clear hs
  refine at_seq rfl fun K33 hK33 => ?_
  refine at_block 0 rfl ?_
  refine at_seq rfl fun K34 hK34 => ?_
  (conv => arg 4; whnf)
  refine fw_region_lit rfl ?_
  refine ops_take 1 fun KO hKO => ?_
  simp [go_sem, opsF, opF, upF, Region.wanted, Fr.ev, Fr.put, thenE, inBlockE, Oper.semAt, yieldF, h0, h1]
  refine hKO _ _ ?_
  clear hKO
  simp only [List.drop_succ_cons, List.drop_zero]
  refine ops_call rfl rfl rfl call19 (by simp [Fr.ev, h0, h1] <;> rfl) ?_
  refine (is_any low w).on ?_
  rintro _ w1 ⟨rfl, rfl⟩
  rw [e1]
  refine ops_take 3 fun KO hKO => ?_
  simp [go_sem, opsF, opF, upF, Region.wanted, Fr.ev, Fr.put, thenE, inBlockE, Oper.semAt, yieldF, h0, h1]
  refine hKO _ _ ?_
  clear hKO
  simp only [List.drop_succ_cons, List.drop_zero]
  refine ops_call rfl (by simp [Region.wanted, yieldF, h0, h1]) rfl call19 (by simp [Fr.ev, h0, h1] <;> rfl) ?_
  refine (is_any high w1).on ?_
  rintro _ w2 ⟨rfl, rfl⟩
  rw [e2]
  simp [go_sem, opsF, opF, upF, Region.wanted, Fr.ev, Fr.put, thenE, inBlockE, Oper.semAt, yieldF, h0, h1]
  refine on_kf hK34 [(0, _), (1, _), (6, _)] (fa_cons h0 (fa_cons h1 (fa_cons (by simp [h0, h1] <;> rfl) fa_nil))) hds ?_
  clear hK34 h0 h1 hds; intro s hs hds
  obtain ⟨h0, h1, h6⟩ := facts3 hs; clear hs
  refine at_false 6 rfl h6 ?_
  refine at_seq rfl fun K35 hK35 => ?_
  (conv => arg 4; whnf)
  refine fw_region_lit rfl ?_
  simp [go_sem, opsF, opF, upF, Region.wanted, Fr.ev, Fr.put, thenE, inBlockE, Oper.semAt, yieldF, h0, h1, h6, g1, g2]
  refine on_kf hK35 [(0, _), (1, _), (15, _)] (fa_cons h0 (fa_cons h1 (fa_cons (by simp [h0, h1, h6, g1, g2] <;> rfl) fa_nil))) hds ?_
  clear hK35 h0 h1 h6 hds; intro s hs hds
  obtain ⟨h0, h1, h15⟩ := facts3 hs; clear hs
  refine at_false 15 rfl h15 ?_
  refine at_skip rfl ?_
  try simp only [inBlockE, thenE]
  refine hK33 _ _ ?_
  clear hK33
  refine at_seq rfl fun K36 hK36 => ?_
  (conv => arg 4; whnf)
  refine fw_region_lit rfl ?_
  simp [go_sem, opsF, opF, upF, Region.wanted, Fr.ev, Fr.put, thenE, inBlockE, Oper.semAt, yieldF, h0, h1, h15, g3, g4, g5, g6]
  refine on_kf hK36 [(4, _), (5, _)] (fa_cons (by simp [h0, h1, h15, g3, g4, g5, g6] <;> rfl) (fa_cons (by simp [h0, h1, h15, g3, g4, g5, g6] <;> rfl) fa_nil)) hds ?_
  clear hK36 h0 h1 h15 hds; intro s hs hds
  obtain ⟨h4, h5⟩ := facts2 hs; clear hs
  refine at_ret rfl ?_
  try simp only [inBlockE, thenE]
  refine ret_two rfl hds ⟨by rw [h4, h5]; rfl, rfl⟩
end Go.Proofs.Ytiejaopidkghdac
