/- The stack: Pop, Push, Reset, New. -/
import Derived.Test.YtiejaopidkghdacPc
namespace Go.Proofs.Ytiejaopidkghdac
set_option linter.unusedSimpArgs false
set_option linter.unusedVariables false
open Go.RowKit Go.Lf

theorem SI.apart {w : World} {sb : Nat} {base root target : Int} {lv : Value} {l : List Int} (h : SI w sb base root target lv l) {k : Nat} (hk : lv.ownBlock = some k) : k ≠ sb := by
  obtain ⟨cur, hc⟩ := h.row.obj hk
  exact h.blk.ne_obj hc (by simp)

theorem SI.setBase {w : World} {sb : Nat} {base root target : Int} {lv : Value} {l : List Int} (h : SI w sb base root target lv l) (b : Int) : SI (w.setCell ⟨sb, 0, none⟩ (.int .i64 b)) sb b root target lv l :=
  ⟨h.blk.set 0 _, h.row.frm (Frm.setCell (S := fun k => k = sb) w ⟨sb, 0, none⟩ _ rfl) (fun k hk e => h.apart hk e)⟩

theorem Mut.of_sb {w w' : World} {sb : Nat} {lv lv' : Value} (h : Frm (fun b => b = sb) w w') (ho : lv'.ownBlock = lv.ownBlock) : Mut w w' sb lv lv' :=
  ⟨h.mono (fun _ _ h => .inl h), fun k hk => .inl (ho ▸ hk)⟩

noncomputable def body10 : Code := Try.f10.body.getD .skip
theorem call10 (args : Array Value) (w : World) : (callFunc 10 args).run Try.prog w = .ok (.enter 10 args) w := callFunc_enter Try.func10 (by kernel_rfl) (by kernel_rfl) args w
noncomputable def body11 : Code := Try.f11.body.getD .skip
theorem call11 (args : Array Value) (w : World) : (callFunc 11 args).run Try.prog w = .ok (.enter 11 args) w := callFunc_enter Try.func11 (by kernel_rfl) (by kernel_rfl) args w
noncomputable def body12 : Code := Try.f12.body.getD .skip
theorem call12 (args : Array Value) (w : World) : (callFunc 12 args).run Try.prog w = .ok (.enter 12 args) w := callFunc_enter Try.func12 (by kernel_rfl) (by kernel_rfl) args w
noncomputable def body4 : Code := Try.f4.body.getD .skip
theorem call4 (args : Array Value) (w : World) : (callFunc 4 args).run Try.prog w = .ok (.enter 4 args) w := callFunc_enter Try.func4 (by kernel_rfl) (by kernel_rfl) args w
theorem pop_any (sb : Nat) (base root target : Int) (lv : Value) (l : List Int) (w : World) (h : SI w sb base root target lv l) (hr : 1 ≤ root) :
    CallsV Try.prog 10 #[.pointer (some ⟨sb, 0, none⟩)] w fun v w' => if l = [] then v = .tuple #[.int .i64 0, .int .i64 11] ∧ ∃ lv', SI w' sb base root target lv' [] ∧ Mut w w' sb lv lv'
      else v = .tuple #[.int .i64 (topOf l), .int .i64 0] ∧ ∃ lv', SI w' sb (topOf l) root target lv' l.dropLast ∧ Mut w w' sb lv lv' := by
  refine calls_at body10 Try.func10 rfl 22 rfl (by simp) fun s hs hds => ?_
  have h0 := hs 0 _ rfl
  clear hs
  refine at_seq rfl fun K1 hK1 => ?_
  (conv => arg 4; whnf)
  refine fw_region_lit rfl ?_
  simp [go_sem, opsF, opF, upF, Region.wanted, Fr.ev, Fr.put, thenE, inBlockE, Oper.semAt, yieldF, h0]
  refine on_kf hK1 [(0, _)] (fa_cons h0 fa_nil) hds ?_
  clear hK1 h0 hds; intro s hs hds
  have h0 : s.t 0 = _ := hs (0, _) (List.mem_singleton_self _); clear hs
  refine at_seq rfl fun K2 hK2 => ?_
  refine at_seq rfl fun K3 hK3 => ?_
  (conv => arg 4; whnf)
  refine fw_region_lit rfl ?_
  refine ops_take 1 fun KO hKO => ?_
  simp [go_sem, opsF, opF, upF, Region.wanted, Fr.ev, Fr.put, thenE, inBlockE, Oper.semAt, yieldF, h0]
  refine hKO _ _ ?_
  clear hKO
  simp only [List.drop_succ_cons, List.drop_zero]
  refine ops_call rfl rfl rfl call20 (by simp [Fr.ev, h0] <;> rfl) ?_
  refine (none_no sb base root target _ l w h hr).on ?_
  rintro _ w1 ⟨rfl, rfl⟩
  simp [go_sem, opsF, opF, upF, Region.wanted, Fr.ev, Fr.put, thenE, inBlockE, Oper.semAt, yieldF, h0]
  refine on_kf hK3 [(0, _), (7, _)] (fa_cons h0 (fa_cons (by simp [h0] <;> rfl) fa_nil)) hds ?_
  clear hK3 h0 hds; intro s hs hds
  obtain ⟨h0, h7⟩ := facts2 hs; clear hs
  refine at_false 7 rfl h7 ?_
  refine at_skip rfl ?_
  try simp only [inBlockE, thenE]
  refine hK2 _ _ ?_
  clear hK2
  refine at_seq rfl fun K4 hK4 => ?_
  (conv => arg 4; whnf)
  refine fw_region_lit rfl ?_
  refine ops_take 3 fun KO hKO => ?_
  simp [go_sem, opsF, opF, upF, Region.wanted, Fr.ev, Fr.put, thenE, inBlockE, Oper.semAt, yieldF, h0, h7]
  refine hKO _ _ ?_
  clear hKO
  simp only [List.drop_succ_cons, List.drop_zero]
  refine ops_call rfl rfl rfl call23 (by simp [Fr.ev, h0, h7] <;> rfl) ?_
  refine (pull_any sb base root target _ l w1 h).on ?_
  rintro _ w2 ⟨rfl, lv', hS2, hF2, hO2⟩
  simp [go_sem, opsF, opF, upF, Region.wanted, Fr.ev, Fr.put, thenE, inBlockE, Oper.semAt, yieldF, h0, h7]
  refine on_kf hK4 [(0, _), (4, _), (5, _)] (fa_cons h0 (fa_cons (by simp [h0, h7] <;> rfl) (fa_cons (by simp [h0, h7] <;> rfl) fa_nil))) hds ?_
  clear hK4 h0 h7 hds; intro s hs hds
  obtain ⟨h0, h4, h5⟩ := facts3 hs; clear hs
  refine at_seq rfl fun K5 hK5 => ?_
  refine at_seq rfl fun K6 hK6 => ?_
  (conv => arg 4; whnf)
  refine fw_region_lit rfl ?_
  simp [go_sem, opsF, opF, upF, Region.wanted, Fr.ev, Fr.put, thenE, inBlockE, Oper.semAt, yieldF, h0, h4, h5]
  refine on_kf hK6 [(0, _), (4, _), (16, _)] (fa_cons h0 (fa_cons h4 (fa_cons (by simp [h0, h4, h5] <;> rfl) fa_nil))) hds ?_
  clear hK6 h0 h4 h5 hds; intro s hs hds
  obtain ⟨h0, h4, h16⟩ := facts3 hs; clear hs
  by_cases hl : l = []
  · subst hl
    refine at_true 16 rfl h16 ?_
    refine at_seq rfl fun K7 hK7 => ?_
    (conv => arg 4; whnf)
    refine fw_region_lit rfl ?_
    simp [go_sem, opsF, opF, upF, Region.wanted, Fr.ev, Fr.put, thenE, inBlockE, Oper.semAt, yieldF, h0, h4, h16]
    refine on_kf hK7 [(2, _), (3, _)] (fa_cons (by simp [h0, h4, h16] <;> rfl) (fa_cons (by simp [h0, h4, h16] <;> rfl) fa_nil)) hds ?_
    clear hK7 h0 h4 h16 hds; intro s hs hds
    obtain ⟨h2, h3⟩ := facts2 hs; clear hs
    refine at_ret rfl ?_
    try simp only [inBlockE, thenE]
    refine ret_two rfl hds ?_
    simp only [if_true, h2, h3]
    exact ⟨trivial, lv', hS2, Mut.of_sb hF2 hO2⟩
  · rw [decide_eq_false hl] at h16
    have f0 := hS2.blk.frozen 0
    have x0 := hS2.blk.cell 0
    refine at_false 16 rfl h16 ?_
    refine at_skip rfl ?_
    try simp only [inBlockE, thenE]
    refine hK5 _ _ ?_
    clear hK5
    refine at_seq rfl fun K8 hK8 => ?_
    (conv => arg 4; whnf)
    refine fw_region_lit rfl ?_
    simp [go_sem, opsF, opF, upF, Region.wanted, Fr.ev, Fr.put, thenE, inBlockE, Oper.semAt, yieldF, h0, h4, h16, f0, x0]
    refine on_kf hK8 [(4, _)] (fa_cons h4 fa_nil) hds ?_
    clear hK8 h0 h4 h16 hds; intro s hs hds
    have h4 : s.t 4 = _ := hs (4, _) (List.mem_singleton_self _); clear hs
    refine at_seq rfl fun K9 hK9 => ?_
    (conv => arg 4; whnf)
    refine fw_region_lit rfl ?_
    simp [go_sem, opsF, opF, upF, Region.wanted, Fr.ev, Fr.put, thenE, inBlockE, Oper.semAt, yieldF, h4, f0, x0]
    refine on_kf hK9 [(2, _), (3, _)] (fa_cons (by simp [h4, f0, x0] <;> rfl) (fa_cons (by simp [h4, f0, x0] <;> rfl) fa_nil)) hds ?_
    clear hK9 h4 hds; intro s hs hds
    obtain ⟨h2, h3⟩ := facts2 hs; clear hs
    refine at_ret rfl ?_
    try simp only [inBlockE, thenE]
    refine ret_two rfl hds ?_
    rw [if_neg hl, h2, h3]
    exact ⟨rfl, lv', hS2.setBase _, Mut.of_sb (hF2.comp (Frm.setCell (S := fun k => k = sb) w2 ⟨sb, 0, none⟩ _ rfl) (fun _ _ h => h) (fun _ _ h => h)) hO2⟩

theorem pushh_any (sb : Nat) (base root target x : Int) (lv : Value) (l : List Int) (w : World) (h : SI w sb base root target lv l) (hr : 1 ≤ root) (hw : WF base l) :
    CallsV Try.prog 11 #[.pointer (some ⟨sb, 0, none⟩), .int .i64 x] w fun v w' => if l = [] then v = .int .i64 11 ∧ New w w' else if base < x ∧ x < topOf l then v = .int .i64 0 ∧ ∃ lv', SI w' sb base root target lv' (l ++ [x]) ∧ Mut w w' sb lv lv' else v = .int .i64 9 ∧ New w w' := by
  have x0 := h.blk.cell 0
  refine calls_at body11 Try.func11 rfl 29 rfl (by simp) fun s hs hds => ?_
  have h0 := hs 0 _ rfl
  have h1 := hs 1 _ rfl
  clear hs
  refine at_seq rfl fun K10 hK10 => ?_
  (conv => arg 4; whnf)
  refine fw_region_lit rfl ?_
  simp [go_sem, opsF, opF, upF, Region.wanted, Fr.ev, Fr.put, thenE, inBlockE, Oper.semAt, yieldF, h0, h1]
  refine on_kf hK10 [(0, _), (1, _)] (fa_cons h0 (fa_cons h1 fa_nil)) hds ?_
  clear hK10 h0 h1 hds; intro s hs hds
  obtain ⟨h0, h1⟩ := facts2 hs; clear hs
  refine at_seq rfl fun K11 hK11 => ?_
  refine at_block 0 rfl ?_
  refine at_seq rfl fun K12 hK12 => ?_
  (conv => arg 4; whnf)
  refine fw_region_lit rfl ?_
  refine ops_take 1 fun KO hKO => ?_
  simp [go_sem, opsF, opF, upF, Region.wanted, Fr.ev, Fr.put, thenE, inBlockE, Oper.semAt, yieldF, h0, h1]
  refine hKO _ _ ?_
  clear hKO
  simp only [List.drop_succ_cons, List.drop_zero]
  refine ops_call rfl rfl rfl call20 (by simp [Fr.ev, h0, h1] <;> rfl) ?_
  refine (none_no sb base root target _ l w h hr).on ?_
  rintro _ w1 ⟨rfl, rfl⟩
  simp [go_sem, opsF, opF, upF, Region.wanted, Fr.ev, Fr.put, thenE, inBlockE, Oper.semAt, yieldF, h0, h1]
  refine on_kf hK12 [(0, _), (1, _), (5, _)] (fa_cons h0 (fa_cons h1 (fa_cons (by simp [h0, h1] <;> rfl) fa_nil))) hds ?_
  clear hK12 h0 h1 hds; intro s hs hds
  obtain ⟨h0, h1, h5⟩ := facts3 hs; clear hs
  refine at_false 5 rfl h5 ?_
  refine at_seq rfl fun K13 hK13 => ?_
  (conv => arg 4; whnf)
  refine fw_region_lit rfl ?_
  refine ops_take 1 fun KO hKO => ?_
  simp [go_sem, opsF, opF, upF, Region.wanted, Fr.ev, Fr.put, thenE, inBlockE, Oper.semAt, yieldF, h0, h1, h5]
  refine hKO _ _ ?_
  clear hKO
  simp only [List.drop_succ_cons, List.drop_zero]
  refine ops_call rfl rfl rfl call5 (by simp [Fr.ev, h0, h1, h5] <;> rfl) ?_
  refine (done_any sb base root target _ l w1 h hr).on ?_
  rintro _ w2 ⟨rfl, rfl⟩
  simp [go_sem, opsF, opF, upF, Region.wanted, Fr.ev, Fr.put, thenE, inBlockE, Oper.semAt, yieldF, h0, h1, h5]
  refine on_kf hK13 [(0, _), (1, _), (8, _)] (fa_cons h0 (fa_cons h1 (fa_cons (by simp [h0, h1, h5] <;> rfl) fa_nil))) hds ?_
  clear hK13 h0 h1 h5 hds; intro s hs hds
  obtain ⟨h0, h1, h8⟩ := facts3 hs; clear hs
  by_cases hl : l = []
  · rw [decide_eq_true hl] at h8
    refine at_true 8 rfl h8 ?_
    refine at_seq rfl fun K14 hK14 => ?_
    (conv => arg 4; whnf)
    refine fw_region_lit rfl ?_
    simp [go_sem, opsF, opF, upF, Region.wanted, Fr.ev, Fr.put, thenE, inBlockE, Oper.semAt, yieldF, h0, h1, h8]
    refine on_kf hK14 [(4, _)] (fa_cons (by simp [h0, h1, h8] <;> rfl) fa_nil) hds ?_
    clear hK14 h0 h1 h8 hds; intro s hs hds
    have h4 : s.t 4 = _ := hs (4, _) (List.mem_singleton_self _); clear hs
    refine at_ret rfl ?_
    try simp only [inBlockE, thenE]
    refine ret_one rfl hds ?_
    rw [if_pos hl, h4]
    exact ⟨rfl, Frm.refl _ _⟩
  · rw [decide_eq_false hl] at h8
    refine at_false 8 rfl h8 ?_
    by_cases c1 : x ≤ base
    · refine at_seq rfl fun K15 hK15 => ?_
      (conv => arg 4; whnf)
      refine fw_region_lit rfl ?_
      refine ops_take 9 fun KO hKO => ?_
      simp [go_sem, opsF, opF, upF, Region.wanted, Fr.ev, Fr.put, thenE, inBlockE, Oper.semAt, yieldF, h0, h1, h8, x0, c1]
      refine hKO _ _ ?_
      clear hKO
      simp only [List.drop_succ_cons, List.drop_zero]
      refine ops_skip rfl (by simp [Region.wanted, yieldF, h0, h1, h8]) ?_
      simp [go_sem, opsF, opF, upF, Region.wanted, Fr.ev, Fr.put, thenE, inBlockE, Oper.semAt, yieldF, h0, h1, h8]
      refine on_kf hK15 [(0, _), (1, _), (11, _)] (fa_cons h0 (fa_cons h1 (fa_cons (by simp [h0, h1, h8] <;> rfl) fa_nil))) hds ?_
      clear hK15 h0 h1 h8 hds; intro s hs hds
      obtain ⟨h0, h1, h11⟩ := facts3 hs; clear hs
      refine at_true 11 rfl h11 ?_
      refine at_seq rfl fun K16 hK16 => ?_
      (conv => arg 4; whnf)
      refine fw_region_lit rfl ?_
      simp [go_sem, opsF, opF, upF, Region.wanted, Fr.ev, Fr.put, thenE, inBlockE, Oper.semAt, yieldF, h0, h1, h11]
      refine on_kf hK16 [(4, _)] (fa_cons (by simp [h0, h1, h11] <;> rfl) fa_nil) hds ?_
      clear hK16 h0 h1 h11 hds; intro s hs hds
      have h4 : s.t 4 = _ := hs (4, _) (List.mem_singleton_self _); clear hs
      refine at_ret rfl ?_
      try simp only [inBlockE, thenE]
      refine ret_one rfl hds ?_
      rw [if_neg hl, if_neg (by omega), h4]
      exact ⟨rfl, Frm.refl _ _⟩
    · refine at_seq rfl fun K17 hK17 => ?_
      (conv => arg 4; whnf)
      refine fw_region_lit rfl ?_
      refine ops_take 9 fun KO hKO => ?_
      simp [go_sem, opsF, opF, upF, Region.wanted, Fr.ev, Fr.put, thenE, inBlockE, Oper.semAt, yieldF, h0, h1, h8, x0, c1]
      refine hKO _ _ ?_
      clear hKO
      simp only [List.drop_succ_cons, List.drop_zero]
      refine ops_call rfl (by simp [Region.wanted, yieldF, h0, h1, h8]) rfl call7 (by simp [Fr.ev, h0, h1, h8] <;> rfl) ?_
      refine (stop_any sb base root target _ l _ h hr).on ?_
      rintro _ w3 ⟨rfl, hw3⟩
      by_cases c2 : topOf l ≤ x
      · simp [go_sem, opsF, opF, upF, Region.wanted, Fr.ev, Fr.put, thenE, inBlockE, Oper.semAt, yieldF, h0, h1, h8, c2]
        refine on_kf hK17 [(0, _), (1, _), (11, _)] (fa_cons h0 (fa_cons h1 (fa_cons (by simp [h0, h1, h8] <;> rfl) fa_nil))) hds ?_
        clear hK17 h0 h1 h8 hds; intro s hs hds
        obtain ⟨h0, h1, h11⟩ := facts3 hs; clear hs
        refine at_true 11 rfl h11 ?_
        refine at_seq rfl fun K18 hK18 => ?_
        (conv => arg 4; whnf)
        refine fw_region_lit rfl ?_
        simp [go_sem, opsF, opF, upF, Region.wanted, Fr.ev, Fr.put, thenE, inBlockE, Oper.semAt, yieldF, h0, h1, h11]
        refine on_kf hK18 [(4, _)] (fa_cons (by simp [h0, h1, h11] <;> rfl) fa_nil) hds ?_
        clear hK18 h0 h1 h11 hds; intro s hs hds
        have h4 : s.t 4 = _ := hs (4, _) (List.mem_singleton_self _); clear hs
        refine at_ret rfl ?_
        try simp only [inBlockE, thenE]
        refine ret_one rfl hds ?_
        rw [if_neg hl, if_neg (by omega), h4]
        exact ⟨rfl, hw3⟩
      · simp [go_sem, opsF, opF, upF, Region.wanted, Fr.ev, Fr.put, thenE, inBlockE, Oper.semAt, yieldF, h0, h1, h8, c2]
        refine on_kf hK17 [(0, _), (1, _), (11, _)] (fa_cons h0 (fa_cons h1 (fa_cons (by simp [h0, h1, h8] <;> rfl) fa_nil))) hds ?_
        clear hK17 h0 h1 h8 hds; intro s hs hds
        obtain ⟨h0, h1, h11⟩ := facts3 hs; clear hs
        refine at_false 11 rfl h11 ?_
        refine at_skip rfl ?_
        try simp only [inBlockE, thenE]
        refine hK11 _ _ ?_
        clear hK11
        refine at_seq rfl fun K19 hK19 => ?_
        (conv => arg 4; whnf)
        refine fw_region_lit rfl ?_
        refine ops_take 4 fun KO hKO => ?_
        simp [go_sem, opsF, opF, upF, Region.wanted, Fr.ev, Fr.put, thenE, inBlockE, Oper.semAt, yieldF, h0, h1, h11]
        refine hKO _ _ ?_
        clear hKO
        simp only [List.drop_succ_cons, List.drop_zero]
        refine ops_call rfl rfl rfl call22 (by simp [Fr.ev, h0, h1, h11] <;> rfl) ?_
        refine (push_any sb base root target lv l x _ (h.new hw3) (by have := hw.len; omega)).on ?_
        rintro _ w4 ⟨rfl, lv', hS4, hF4, hO4⟩
        simp [go_sem, opsF, opF, upF, Region.wanted, Fr.ev, Fr.put, thenE, inBlockE, Oper.semAt, yieldF, h0, h1, h11]
        refine on_kf hK19 [] fa_nil hds ?_
        clear hK19 h0 h1 h11 hds; intro s hs hds
        clear hs
        refine at_seq rfl fun K20 hK20 => ?_
        (conv => arg 4; whnf)
        refine fw_region_lit rfl ?_
        simp [go_sem, opsF, opF, upF, Region.wanted, Fr.ev, Fr.put, thenE, inBlockE, Oper.semAt, yieldF]
        refine on_kf hK20 [(4, _)] (fa_cons (by simp <;> rfl) fa_nil) hds ?_
        clear hK20  hds; intro s hs hds
        have h4 : s.t 4 = _ := hs (4, _) (List.mem_singleton_self _); clear hs
        refine at_ret rfl ?_
        try simp only [inBlockE, thenE]
        refine ret_one rfl hds ?_
        rw [if_neg hl, if_pos (by omega), h4]
        exact ⟨rfl, lv', hS4, (Mut.of_new hw3).trans ⟨hF4, hO4⟩⟩

theorem reset_any (sb : Nat) (base root target : Int) (lv : Value) (l : List Int) (w : World) (h : SI w sb base root target lv l) (hr : 1 ≤ root) :
    CallsV Try.prog 12 #[.pointer (some ⟨sb, 0, none⟩)] w fun v w' => v = .tuple #[] ∧ ∃ lv', SI w' sb root root target lv' [target] ∧ Mut w w' sb lv lv' := by
  have x1 := h.blk.cell 1
  have f0 := h.blk.frozen 0
  have hb0 := h.blk.set 0 (.int .i64 root)
  have y3 := hb0.cell 3
  have f3 := hb0.frozen 3
  have hb1 := hb0.set 3 (.slice none 0 0)
  have hF0 := Frm.setCell (S := fun k => k = sb) w ⟨sb, 0, none⟩ (.int .i64 root) rfl
  have hF1 := hF0.comp (Frm.setCell (S := fun k => k = sb) (w.setCell ⟨sb, 0, none⟩ (.int .i64 root)) ⟨sb, 3, none⟩ (.slice none 0 0) rfl) (fun _ _ h => h) (fun _ _ h => h)
  have hS1 : SI _ sb root root target (.slice none 0 0) [] := ⟨hb1, Row.nil _ _ _⟩
  have x0 := h.blk.cell 0
  refine calls_at body12 Try.func12 rfl 22 rfl (by simp) fun s hs hds => ?_
  have h0 := hs 0 _ rfl
  clear hs
  refine at_seq rfl fun K21 hK21 => ?_
  refine at_seq rfl fun K22 hK22 => ?_
  (conv => arg 4; whnf)
  refine fw_region_lit rfl ?_
  refine ops_take 1 fun KO hKO => ?_
  simp [go_sem, opsF, opF, upF, Region.wanted, Fr.ev, Fr.put, thenE, inBlockE, Oper.semAt, yieldF, h0]
  refine hKO _ _ ?_
  clear hKO
  simp only [List.drop_succ_cons, List.drop_zero]
  refine ops_call rfl rfl rfl call20 (by simp [Fr.ev, h0] <;> rfl) ?_
  refine (none_no sb base root target _ l w h hr).on ?_
  rintro _ w1 ⟨rfl, rfl⟩
  simp [go_sem, opsF, opF, upF, Region.wanted, Fr.ev, Fr.put, thenE, inBlockE, Oper.semAt, yieldF, h0]
  refine on_kf hK22 [(0, _), (3, _)] (fa_cons h0 (fa_cons (by simp [h0] <;> rfl) fa_nil)) hds ?_
  clear hK22 h0 hds; intro s hs hds
  obtain ⟨h0, h3⟩ := facts2 hs; clear hs
  refine at_false 3 rfl h3 ?_
  refine at_skip rfl ?_
  try simp only [inBlockE, thenE]
  refine hK21 _ _ ?_
  clear hK21
  refine at_seq rfl fun K23 hK23 => ?_
  (conv => arg 4; whnf)
  refine fw_region_lit rfl ?_
  simp [go_sem, opsF, opF, upF, Region.wanted, Fr.ev, Fr.put, thenE, inBlockE, Oper.semAt, yieldF, h0, h3, x0, x1, f0, y3, f3]
  refine on_kf hK23 [(0, _)] (fa_cons h0 fa_nil) hds ?_
  clear hK23 h0 h3 hds; intro s hs hds
  have h0 : s.t 0 = _ := hs (0, _) (List.mem_singleton_self _); clear hs
  generalize (w1.setCell ⟨sb, 0, none⟩ (.int .i64 root)).setCell ⟨sb, 3, none⟩ (.slice none 0 0) = w2 at *
  have x2 := hS1.blk.cell 2
  (conv => arg 4; whnf)
  refine' fw_region_facts 7 (FL [(IsV _), (IsV _), (IsV _), (IsV _), (IsV _), (IsV _), (IsV _)]) mixed (by kernel_rfl) (by kernel_rfl) (by kernel_rfl) (by kernel_rfl) (fl_st _ ⟨stb_isV _, ⟨stb_isV _, ⟨stb_isV _, ⟨stb_isV _, ⟨stb_isV _, ⟨stb_isV _, ⟨stb_isV _, trivial⟩⟩⟩⟩⟩⟩⟩) (all_lt_succ (all_lt_succ (all_lt_succ (all_lt_succ (all_lt_succ (all_lt_succ (all_lt_succ all_lt_zero ?q24o0) ?q24o1) ?q24o2) ?q24o3) ?q24o4) ?q24o5) ?q24o6) ?q24t
  case q24o0 =>
    intro s w' o ho hN hRd hFd next hnext
    cases ho
    have h0 := (hRd 0 (by kernel_rfl)).trans h0
    simp [go_sem, opsF, opF, upF, Region.wanted, Fr.ev, Fr.put, thenE, inBlockE, Oper.semAt, yieldF, h0]
    first | (refine hnext _ _ (Frm.refl _ _) (fl_z ?_); exact isV) | exact hnext _ _ (Frm.refl _ _) (fl_z trivial) | (refine fl_z ?_; exact isV)
  case q24o1 =>
    intro s w' o ho hN hRd hFd next hnext
    cases ho
    have f14 := isV_eq (of_z ((hFd 0 14 (by kernel_rfl) rfl)))
    simp [go_sem, opsF, opF, upF, Region.wanted, Fr.ev, Fr.put, thenE, inBlockE, Oper.semAt, yieldF, f14]
    first | (refine hnext _ _ (Frm.refl _ _) (fl_s (fl_z ?_)); exact isV) | exact hnext _ _ (Frm.refl _ _) (fl_s (fl_z trivial)) | (refine fl_s (fl_z ?_); exact isV)
  case q24o2 =>
    intro s w' o ho hN hRd hFd next hnext
    cases ho
    have f15 := isV_eq (of_z (of_s ((hFd 1 15 (by kernel_rfl) rfl))))
    simp [go_sem, opsF, opF, upF, Region.wanted, Fr.ev, Fr.put, thenE, inBlockE, Oper.semAt, yieldF, f15]
    first | (refine hnext _ _ (Frm.refl _ _) (fl_s (fl_s (fl_z ?_))); exact isV) | exact hnext _ _ (Frm.refl _ _) (fl_s (fl_s (fl_z trivial))) | (refine fl_s (fl_s (fl_z ?_)); exact isV)
  case q24o3 =>
    intro s w' o ho hN hRd hFd next hnext
    cases ho
    have h0 := (hRd 0 (by kernel_rfl)).trans h0
    simp [go_sem, opsF, opF, upF, Region.wanted, Fr.ev, Fr.put, thenE, inBlockE, Oper.semAt, yieldF, h0]
    first | (refine hnext _ _ (Frm.refl _ _) (fl_s (fl_s (fl_s (fl_z ?_)))); exact isV) | exact hnext _ _ (Frm.refl _ _) (fl_s (fl_s (fl_s (fl_z trivial)))) | (refine fl_s (fl_s (fl_s (fl_z ?_))); exact isV)
  case q24o4 =>
    intro s w' o ho hN hRd hFd next hnext
    cases ho
    have f17 := isV_eq (of_z (of_s (of_s (of_s ((hFd 3 17 (by kernel_rfl) rfl))))))
    simp [go_sem, opsF, opF, upF, Region.wanted, Fr.ev, Fr.put, thenE, inBlockE, Oper.semAt, yieldF, f17]
    first | (refine hnext _ _ (Frm.refl _ _) (fl_s (fl_s (fl_s (fl_s (fl_z ?_))))); exact isV) | exact hnext _ _ (Frm.refl _ _) (fl_s (fl_s (fl_s (fl_s (fl_z trivial))))) | (refine fl_s (fl_s (fl_s (fl_s (fl_z ?_)))); exact isV)
  case q24o5 =>
    intro s w' o ho hN hRd hFd next hnext
    cases ho
    have f18 := isV_eq (of_z (of_s (of_s (of_s (of_s ((hFd 4 18 (by kernel_rfl) rfl)))))))
    simp [go_sem, opsF, opF, upF, Region.wanted, Fr.ev, Fr.put, thenE, inBlockE, Oper.semAt, yieldF, f18]
    first | (refine hnext _ _ (Frm.refl _ _) (fl_s (fl_s (fl_s (fl_s (fl_s (fl_z ?_)))))); exact isV) | exact hnext _ _ (Frm.refl _ _) (fl_s (fl_s (fl_s (fl_s (fl_s (fl_z trivial)))))) | (refine fl_s (fl_s (fl_s (fl_s (fl_s (fl_z ?_))))); exact isV)
  case q24o6 =>
    intro s w' o ho hN hRd hFd next hnext
    cases ho
    have f19 := isV_eq (of_z (of_s (of_s (of_s (of_s (of_s ((hFd 5 19 (by kernel_rfl) rfl))))))))
    have x2 := cell_new hN x2
    simp [go_sem, opsF, opF, upF, Region.wanted, Fr.ev, Fr.put, thenE, inBlockE, Oper.semAt, yieldF, f19, x2]
    first | (refine hnext _ _ (Frm.refl _ _) (fl_s (fl_s (fl_s (fl_s (fl_s (fl_s (fl_z ?_))))))); exact isV) | exact hnext _ _ (Frm.refl _ _) (fl_s (fl_s (fl_s (fl_s (fl_s (fl_s (fl_z trivial))))))) | (refine fl_s (fl_s (fl_s (fl_s (fl_s (fl_s (fl_z ?_)))))); exact isV)
  intro s wD hN hds' hRd hFd
  have hds := hds'.trans hds
  clear hds'
  have h0 := (hRd 0 (by kernel_rfl)).trans h0
  have h16 := isV_eq (of_z (of_s (of_s ((hFd 2 16 (by decide) rfl)))))
  have h20 := isV_eq (of_z (of_s (of_s (of_s (of_s (of_s (of_s ((hFd 6 20 (by decide) rfl)))))))))
  have x2 := cell_new hN x2
  clear hRd hFd
  simp only [List.drop_succ_cons, List.drop_zero]
  try simp [go_sem, opsF, opF, upF, Region.wanted, Fr.ev, Fr.put, thenE, inBlockE, Oper.semAt, yieldF, h0, h16, h20]
  refine (push_any sb root root target _ [] target _ (hS1.new hN) (by simp)).on ?_
  rintro _ w4 ⟨rfl, lv', hS4, hF4, hO4⟩
  try simp [go_sem, opsF, opF, upF, Region.wanted, Fr.ev, Fr.put, thenE, inBlockE, Oper.semAt, yieldF, h0, h16, h20]
  have hM : Mut w1 w2 sb lv (.slice none 0 0) := ⟨hF1.mono (fun _ _ h => .inl h), fun k hk => by cases hk⟩
  exact end_none rfl hds ⟨rfl, lv', hS4, (hM.trans (Mut.of_new hN)).trans ⟨hF4, hO4⟩⟩

theorem new_no (low : Int) (w : World) (h1 : 1 ≤ low) (h2 : low ≤ 400) : CallsV Try.prog 4 #[.int .i64 low, .int .i64 low] w fun v w' => v = .tuple #[.pointer none, .int .i64 13] ∧ w' = w := by
  have e1 : decide (1 ≤ low ∧ low ≤ 1073741824) = true := by simp; omega
  clear h1 h2
  refine calls_at body4 Try.func4 rfl 27 rfl (by simp) fun s hs hds => ?_
  have h0 := hs 0 _ rfl
  have h1 := hs 1 _ rfl
  clear hs
  refine at_seq rfl fun K25 hK25 => ?_
  (conv => arg 4; whnf)
  refine fw_region_lit rfl ?_
  simp [go_sem, opsF, opF, upF, Region.wanted, Fr.ev, Fr.put, thenE, inBlockE, Oper.semAt, yieldF, h0, h1]
  refine on_kf hK25 [(0, _), (1, _)] (fa_cons h0 (fa_cons h1 fa_nil)) hds ?_
  clear hK25 h0 h1 hds; intro s hs hds
  obtain ⟨h0, h1⟩ := facts2 hs; clear hs
  refine at_seq rfl fun K26 hK26 => ?_
  refine at_block 0 rfl ?_
  refine at_seq rfl fun K27 hK27 => ?_
  (conv => arg 4; whnf)
  refine fw_region_lit rfl ?_
  refine ops_take 1 fun KO hKO => ?_
  simp [go_sem, opsF, opF, upF, Region.wanted, Fr.ev, Fr.put, thenE, inBlockE, Oper.semAt, yieldF, h0, h1]
  refine hKO _ _ ?_
  clear hKO
  simp only [List.drop_succ_cons, List.drop_zero]
  refine ops_call rfl rfl rfl call19 (by simp [Fr.ev, h0, h1] <;> rfl) ?_
  refine (is_any low w).on ?_
  rintro _ w1 ⟨rfl, rfl⟩
  rw [e1]
  refine ops_take 3 fun KO hKO => ?_
  simp [go_sem, opsF, opF, upF, Region.wanted, Fr.ev, Fr.put, thenE, inBlockE, Oper.semAt, yieldF, h0, h1]
  refine hKO _ _ ?_
  clear hKO
  simp only [List.drop_succ_cons, List.drop_zero]
  refine ops_call rfl (by simp [Region.wanted, yieldF, h0, h1]) rfl call19 (by simp [Fr.ev, h0, h1] <;> rfl) ?_
  refine (is_any low w1).on ?_
  rintro _ w2 ⟨rfl, rfl⟩
  rw [e1]
  simp [go_sem, opsF, opF, upF, Region.wanted, Fr.ev, Fr.put, thenE, inBlockE, Oper.semAt, yieldF, h0, h1]
  refine on_kf hK27 [(0, _), (1, _), (7, _)] (fa_cons h0 (fa_cons h1 (fa_cons (by simp [h0, h1] <;> rfl) fa_nil))) hds ?_
  clear hK27 h0 h1 hds; intro s hs hds
  obtain ⟨h0, h1, h7⟩ := facts3 hs; clear hs
  refine at_false 7 rfl h7 ?_
  refine at_seq rfl fun K28 hK28 => ?_
  (conv => arg 4; whnf)
  refine fw_region_lit rfl ?_
  simp [go_sem, opsF, opF, upF, Region.wanted, Fr.ev, Fr.put, thenE, inBlockE, Oper.semAt, yieldF, h0, h1, h7]
  refine on_kf hK28 [(0, _), (1, _), (16, _)] (fa_cons h0 (fa_cons h1 (fa_cons (by simp [h0, h1, h7] <;> rfl) fa_nil))) hds ?_
  clear hK28 h0 h1 h7 hds; intro s hs hds
  obtain ⟨h0, h1, h16⟩ := facts3 hs; clear hs
  refine at_true 16 rfl h16 ?_
  refine at_seq rfl fun K29 hK29 => ?_
  (conv => arg 4; whnf)
  refine fw_region_lit rfl ?_
  simp [go_sem, opsF, opF, upF, Region.wanted, Fr.ev, Fr.put, thenE, inBlockE, Oper.semAt, yieldF, h0, h1, h16]
  refine on_kf hK29 [(4, _), (5, _)] (fa_cons (by simp [h0, h1, h16] <;> rfl) (fa_cons (by simp [h0, h1, h16] <;> rfl) fa_nil)) hds ?_
  clear hK29 h0 h1 h16 hds; intro s hs hds
  obtain ⟨h4, h5⟩ := facts2 hs; clear hs
  refine at_ret rfl ?_
  try simp only [inBlockE, thenE]
  refine ret_two rfl hds ⟨by rw [h4, h5], rfl⟩

theorem new_any (low high : Int) (w : World) (h1 : 1 ≤ low) (h2 : low < high) (h3 : high ≤ 400) : CallsV Try.prog 4 #[.int .i64 low, .int .i64 high] w fun v w' => ∃ sb lv, v = .tuple #[.pointer (some ⟨sb, 0, none⟩), .int .i64 0] ∧ SI w' sb low low high lv [high] ∧ New w w' ∧ w.heap.size ≤ sb ∧ ∀ k, lv.ownBlock = some k → w.heap.size ≤ k := by
  have e1 : decide (1 ≤ low ∧ low ≤ 1073741824) = true := by simp; omega
  have e2 : decide (1 ≤ high ∧ high ≤ 1073741824) = true := by simp; omega
  have e3 : ¬ high ≤ low := by omega
  have e4 := h1
  have hB := Blk.new w #[.int .i64 0, .int .i64 low, .int .i64 high, .slice none 0 0] 53
  have hA := Frm.alloc (fun _ => False) w (.cells #[.int .i64 0, .int .i64 low, .int .i64 high, .slice none 0 0] 53)
  have hS : SI (w.alloc (.cells #[.int .i64 0, .int .i64 low, .int .i64 high, .slice none 0 0] 53)) w.heap.size 0 low high (.slice none 0 0) [] := ⟨hB, Row.nil _ _ _⟩
  clear h1 h2 h3
  refine calls_at body4 Try.func4 rfl 27 rfl (by simp) fun s hs hds => ?_
  have h0 := hs 0 _ rfl
  have h1 := hs 1 _ rfl
  clear hs
  refine at_seq rfl fun K30 hK30 => ?_
  (conv => arg 4; whnf)
  refine fw_region_lit rfl ?_
  simp [go_sem, opsF, opF, upF, Region.wanted, Fr.ev, Fr.put, thenE, inBlockE, Oper.semAt, yieldF, h0, h1]
  refine on_kf hK30 [(0, _), (1, _)] (fa_cons h0 (fa_cons h1 fa_nil)) hds ?_
  clear hK30 h0 h1 hds; intro s hs hds
  obtain ⟨h0, h1⟩ := facts2 hs; clear hs
  refine at_seq rfl fun K31 hK31 => ?_
  refine at_block 0 rfl ?_
  refine at_seq rfl fun K32 hK32 => ?_
  (conv => arg 4; whnf)
  refine fw_region_lit rfl ?_
  refine ops_take 1 fun KO hKO => ?_
  simp [go_sem, opsF, opF, upF, Region.wanted, Fr.ev, Fr.put, thenE, inBlockE, Oper.semAt, yieldF, h0, h1]
  refine hKO _ _ ?_
  clear hKO
  simp only [List.drop_succ_cons, List.drop_zero]
  refine ops_call rfl rfl rfl call19 (by simp [Fr.ev, h0, h1] <;> rfl) ?_
  refine (is_any low w).on ?_
  rintro _ w1 ⟨rfl, rfl⟩
  rw [e1]
  refine ops_take 3 fun KO hKO => ?_
  simp [go_sem, opsF, opF, upF, Region.wanted, Fr.ev, Fr.put, thenE, inBlockE, Oper.semAt, yieldF, h0, h1]
  refine hKO _ _ ?_
  clear hKO
  simp only [List.drop_succ_cons, List.drop_zero]
  refine ops_call rfl (by simp [Region.wanted, yieldF, h0, h1]) rfl call19 (by simp [Fr.ev, h0, h1] <;> rfl) ?_
  refine (is_any high w1).on ?_
  rintro _ w2 ⟨rfl, rfl⟩
  rw [e2]
  simp [go_sem, opsF, opF, upF, Region.wanted, Fr.ev, Fr.put, thenE, inBlockE, Oper.semAt, yieldF, h0, h1]
  refine on_kf hK32 [(0, _), (1, _), (7, _)] (fa_cons h0 (fa_cons h1 (fa_cons (by simp [h0, h1] <;> rfl) fa_nil))) hds ?_
  clear hK32 h0 h1 hds; intro s hs hds
  obtain ⟨h0, h1, h7⟩ := facts3 hs; clear hs
  refine at_false 7 rfl h7 ?_
  refine at_seq rfl fun K33 hK33 => ?_
  (conv => arg 4; whnf)
  refine fw_region_lit rfl ?_
  simp [go_sem, opsF, opF, upF, Region.wanted, Fr.ev, Fr.put, thenE, inBlockE, Oper.semAt, yieldF, h0, h1, h7, e3]
  refine on_kf hK33 [(0, _), (1, _), (16, _)] (fa_cons h0 (fa_cons h1 (fa_cons (by simp [h0, h1, h7, e3] <;> rfl) fa_nil))) hds ?_
  clear hK33 h0 h1 h7 hds; intro s hs hds
  obtain ⟨h0, h1, h16⟩ := facts3 hs; clear hs
  refine at_false 16 rfl h16 ?_
  refine at_skip rfl ?_
  try simp only [inBlockE, thenE]
  refine hK31 _ _ ?_
  clear hK31
  refine at_seq rfl fun K34 hK34 => ?_
  (conv => arg 4; whnf)
  refine fw_region_lit rfl ?_
  simp [go_sem, opsF, opF, upF, Region.wanted, Fr.ev, Fr.put, thenE, inBlockE, Oper.semAt, yieldF, h0, h1, h16]
  refine on_kf hK34 [(6, _)] (fa_cons (by simp [h0, h1, h16] <;> rfl) fa_nil) hds ?_
  clear hK34 h0 h1 h16 hds; intro s hs hds
  have h6 : s.t 6 = _ := hs (6, _) (List.mem_singleton_self _); clear hs
  refine at_seq rfl fun K35 hK35 => ?_
  generalize w2.alloc (.cells #[.int .i64 0, .int .i64 low, .int .i64 high, .slice none 0 0] 53) = w3 at *
  have hsz := hA.size
  generalize hsb : w2.heap.size = sb at *
  (conv => arg 4; whnf)
  refine fw_region_lit rfl ?_
  refine ops_take 1 fun KO hKO => ?_
  simp [go_sem, opsF, opF, upF, Region.wanted, Fr.ev, Fr.put, thenE, inBlockE, Oper.semAt, yieldF, h6]
  refine hKO _ _ ?_
  clear hKO
  simp only [List.drop_succ_cons, List.drop_zero]
  refine ops_call rfl rfl rfl call12 (by simp [Fr.ev, h6] <;> rfl) ?_
  refine (reset_any sb 0 low high _ [] w3 hS e4).on ?_
  rintro _ w4 ⟨rfl, lv', hS4, hM⟩
  simp [go_sem, opsF, opF, upF, Region.wanted, Fr.ev, Fr.put, thenE, inBlockE, Oper.semAt, yieldF, h6]
  refine on_kf hK35 [(6, _)] (fa_cons h6 fa_nil) hds ?_
  clear hK35 h6 hds; intro s hs hds
  have h6 : s.t 6 = _ := hs (6, _) (List.mem_singleton_self _); clear hs
  refine at_seq rfl fun K36 hK36 => ?_
  (conv => arg 4; whnf)
  refine fw_region_lit rfl ?_
  simp [go_sem, opsF, opF, upF, Region.wanted, Fr.ev, Fr.put, thenE, inBlockE, Oper.semAt, yieldF, h6]
  refine on_kf hK36 [(4, _), (5, _)] (fa_cons (by simp [h6] <;> rfl) (fa_cons (by simp [h6] <;> rfl) fa_nil)) hds ?_
  clear hK36 h6 hds; intro s hs hds
  obtain ⟨h4, h5⟩ := facts2 hs; clear hs
  refine at_ret rfl ?_
  try simp only [inBlockE, thenE]
  refine ret_two rfl hds ⟨sb, lv', by rw [h4, h5], hS4, hA.comp hM.frm (fun _ _ h => h.elim) (fun i hi hs => ?_), by omega, fun k hk => ?_⟩
  · rcases hs with hs | hs
    · omega
    · cases hs
  · rcases hM.own k hk with h | h
    · cases h
    · omega
end Go.Proofs.Ytiejaopidkghdac
