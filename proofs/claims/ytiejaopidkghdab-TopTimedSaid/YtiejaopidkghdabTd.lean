/- Terms, as the law has them. -/
import Derived.Test.YtiejaopidkghdabTc
namespace Go.Proofs.Ytiejaopidkghdab
set_option linter.unusedSimpArgs false
set_option linter.unusedVariables false
open Go.RowKit Go.Lf

noncomputable def body4 : Code := Try.f4.body.getD .skip
theorem terms_any (p q n o : Int) (w : World) (hp : 0 ≤ p ∧ p ≤ 65535) (hq : 0 ≤ q ∧ q ≤ 65535) (hn : 0 ≤ n ∧ n ≤ 255) (ho : 0 ≤ o ∧ o ≤ 255) :
    CallsV Try.prog 4 #[.int .u16 p, .int .u16 q, .int .u8 n, .int .u8 o] w fun v w' => v = tv (p % 60) (q % 20 - 1) (n % 12) (o % 12) ∧ New w w' := by
  refine calls_at body4 Try.func4 rfl 23 rfl (by simp) fun s hs hds => ?_
  have h0 := hs 0 _ rfl
  have h1 := hs 1 _ rfl
  have h2 := hs 2 _ rfl
  have h3 := hs 3 _ rfl
  clear hs
  have a1 : p.tmod 60 = p % 60 := Int.tmod_eq_emod_of_nonneg (by omega)
  have a2 : q.tmod 20 = q % 20 := Int.tmod_eq_emod_of_nonneg (by omega)
  have a3 : n.tmod 12 = n % 12 := Int.tmod_eq_emod_of_nonneg (by omega)
  have a4 : o.tmod 12 = o % 12 := Int.tmod_eq_emod_of_nonneg (by omega)
  have b1 : IntKind.i64.wrap (p % 60) = p % 60 := IntWalk.i64_in _ (by omega)
  have b2 : IntKind.i64.wrap (q % 20) = q % 20 := IntWalk.i64_in _ (by omega)
  have b3 : IntKind.i64.wrap (n % 12) = n % 12 := IntWalk.i64_in _ (by omega)
  have b4 : IntKind.i64.wrap (o % 12) = o % 12 := IntWalk.i64_in _ (by omega)
  have b5 : IntKind.i64.wrap (q % 20 - 1) = q % 20 - 1 := IntWalk.i64_in _ (by omega)
  have hA := Frm.alloc (fun _ => False) w (.cells #[.int .i64 0, .int .i64 0, .int .i64 0, .int .i64 0] 24)
  have hb := Blk.new w #[.int .i64 0, .int .i64 0, .int .i64 0, .int .i64 0] 24
  have hsz : w.heap.size < (w.alloc (.cells #[.int .i64 0, .int .i64 0, .int .i64 0, .int .i64 0] 24)).heap.size := by simp
  refine at_seq rfl fun K1 hK1 => ?_
  (conv => arg 4; whnf)
  refine fw_region_lit rfl ?_
  simp [go_sem, opsF, opF, upF, Region.wanted, Fr.ev, Fr.put, thenE, inBlockE, Oper.semAt, yieldF, h0, h1, h2, h3]
  refine on_kf hK1 [(0, .int .u16 p), (1, .int .u16 q), (2, .int .u8 n), (3, .int .u8 o), (8, .pointer (some ⟨w.heap.size, 0, none⟩))] (by simp [h0, h1, h2, h3]) hds ?_
  clear hK1 h0 h1 h2 h3 hds; intro s hs hds
  obtain ⟨h0, h1, h2, h3, h8⟩ := facts5 hs; clear hs
  generalize w.alloc (.cells #[.int .i64 0, .int .i64 0, .int .i64 0, .int .i64 0] 24) = w1 at *
  generalize hbx : w.heap.size = bx at *
  have x0 := hb.cell 0
  have x1 := hb.cell 1
  have x2 := hb.cell 2
  have x3 := hb.cell 3
  have y0 := hb.frozen 0
  have y1 := hb.frozen 1
  have y2 := hb.frozen 2
  have y3 := hb.frozen 3
  simp only [List.getElem?_toArray, List.getElem?_cons_zero, List.getElem?_cons_succ] at x0 x1 x2 x3
  refine at_seq rfl fun K2 hK2 => ?_
  (conv => arg 4; whnf)
  refine fw_region_lit rfl ?_
  simp [go_sem, opsF, opF, upF, Region.wanted, Fr.ev, Fr.put, thenE, inBlockE, Oper.semAt, yieldF, h0, h1, h2, h3, h8, a1, a2, a3, a4, b1, b2, b3, b4, b5, x0, x1, x2, x3, y0, y1, y2, y3]
  have hb4 := (((hb.set 0 (.int .i64 (p % 60))).set 1 (.int .i64 (q % 20 - 1))).set 2 (.int .i64 (n % 12))).set 3 (.int .i64 (o % 12))
  have hF : Frm (fun b => b = bx) w1 ((((w1.setCell ⟨bx, 0, none⟩ (.int .i64 (p % 60))).setCell ⟨bx, 1, none⟩ (.int .i64 (q % 20 - 1))).setCell ⟨bx, 2, none⟩ (.int .i64 (n % 12))).setCell ⟨bx, 3, none⟩ (.int .i64 (o % 12))) :=
    (((Frm.setCell (S := fun b => b = bx) w1 ⟨bx, 0, none⟩ _ rfl).trans (Frm.setCell (S := fun b => b = bx) _ ⟨bx, 1, none⟩ _ rfl) (fun _ _ h => h)).trans (Frm.setCell (S := fun b => b = bx) _ ⟨bx, 2, none⟩ _ rfl) (fun _ _ h => h)).trans (Frm.setCell (S := fun b => b = bx) _ ⟨bx, 3, none⟩ _ rfl) (fun _ _ h => h)
  have hNF : New w _ := Frm.trans hA hF (fun b hb h => by omega)
  have z0 := hb4.cell 0
  have z1 := hb4.cell 1
  have z2 := hb4.cell 2
  have z3 := hb4.cell 3
  refine on_kf hK2 [(0, .int .u16 p), (1, .int .u16 q), (2, .int .u8 n), (3, .int .u8 o), (8, .pointer (some ⟨bx, 0, none⟩))] (by simp [h0, h1, h2, h3, h8]) hds ?_
  clear hK2 h0 h1 h2 h3 h8 hds; intro s hs hds
  obtain ⟨h0, h1, h2, h3, h8⟩ := facts5 hs; clear hs
  refine at_ret rfl ?_
  show leaveF _ _ _ _ s.ds _
  rw [hds]
  refine ⟨tv (p % 60) (q % 20 - 1) (n % 12) (o % 12), ?_, rfl, hNF⟩
  simp only [List.getElem?_toArray, List.getElem?_cons_zero, List.getElem?_cons_succ, Array.setIfInBounds, Array.set, List.set] at z0 z1 z2 z3
  simp at z0 z1 z2 z3
  simp [resF, Try.results4, h8, go_sem, z0, z1, z2, z3, tv]

noncomputable def body5 : Code := Try.f5.body.getD .skip
set_option maxHeartbeats 1000000 in
theorem wrong_any (P D m d : Int) (w : World) (hP : 0 ≤ P ∧ P ≤ 1000) (hD : -1 ≤ D ∧ D ≤ 1000) (hm : 0 ≤ m ∧ m ≤ 100) (hd : 0 ≤ d ∧ d ≤ 100) :
    CallsV Try.prog 5 #[tv P D m d] w fun v w' => v = .int .i64 (badOf P D m d) ∧ New w w' := by
  refine calls_at body5 Try.func5 rfl 36 rfl (by simp) fun s hs hds => ?_
  have h0 := hs 0 _ rfl
  clear hs
  unfold tv at h0
  have hb := Blk.new w #[.int .i64 P, .int .i64 D, .int .i64 m, .int .i64 d] 24
  have hA := Frm.alloc (fun _ => False) w (.cells #[.int .i64 P, .int .i64 D, .int .i64 m, .int .i64 d] 24)
  refine at_seq rfl fun K3 hK3 => ?_
  (conv => arg 4; whnf)
  refine fw_region_lit rfl ?_
  simp [go_sem, opsF, opF, upF, Region.wanted, Fr.ev, Fr.put, thenE, inBlockE, Oper.semAt, yieldF, h0]
  refine on_kf hK3 [(1, .pointer (some ⟨w.heap.size, 0, none⟩))] (by simp [h0]) hds ?_
  clear hK3 h0 hds; intro s hs hds
  have h1 : s.t 1 = .pointer (some ⟨w.heap.size, 0, none⟩) := hs (1, _) (List.mem_singleton_self _); clear hs
  generalize w.alloc (.cells #[.int .i64 P, .int .i64 D, .int .i64 m, .int .i64 d] 24) = w1 at *
  generalize w.heap.size = bt at *
  have x0 := hb.cell 0
  have x1 := hb.cell 1
  have x2 := hb.cell 2
  have x3 := hb.cell 3
  simp only [List.getElem?_toArray, List.getElem?_cons_zero, List.getElem?_cons_succ] at x0 x1 x2 x3
  have d1 : IntKind.i64.wrap (3 * m) = 3 * m := IntWalk.i64_in _ (by omega)
  refine at_seq rfl fun K4 hK4 => ?_
  refine at_block 0 rfl ?_
  refine at_seq rfl fun K5 hK5 => ?_
  have hcase : P < 1 ∨ (¬ P < 1 ∧ D < 0) ∨ (¬ P < 1 ∧ ¬ D < 0 ∧ d < 1) ∨ (¬ P < 1 ∧ ¬ D < 0 ∧ ¬ d < 1 ∧ m < 1) ∨ (¬ P < 1 ∧ ¬ D < 0 ∧ ¬ d < 1 ∧ ¬ m < 1 ∧ d < m) ∨ (¬ P < 1 ∧ ¬ D < 0 ∧ ¬ d < 1 ∧ ¬ m < 1 ∧ ¬ d < m) := by omega
  rcases hcase with e1 | ⟨e1, e2⟩ | ⟨e1, e2, e3⟩ | ⟨e1, e2, e3, e4⟩ | ⟨e1, e2, e3, e4, e5⟩ | ⟨e1, e2, e3, e4, e5⟩
  · have hbad : badOf P D m d = 3 := by unfold badOf; rw [if_pos (by omega)]
    (conv => arg 4; whnf)
    refine fw_region_lit rfl ?_
    simp [go_sem, opsF, opF, upF, Region.wanted, Fr.ev, Fr.put, thenE, inBlockE, Oper.semAt, yieldF, h1, x0, x1, x2, x3, e1]
    refine on_kf hK5 [(1, .pointer (some ⟨bt, 0, none⟩)), (3, .bool true)] (by simp [h1]) hds ?_
    clear hK5 h1 hds; intro s hs hds
    obtain ⟨h1, h3⟩ := facts2 hs; clear hs
    refine at_true 3 rfl h3 ?_
    refine at_seq rfl fun K6 hK6 => ?_
    (conv => arg 4; whnf)
    refine fw_region_lit rfl ?_
    simp [go_sem, opsF, opF, upF, Region.wanted, Fr.ev, Fr.put, thenE, inBlockE, Oper.semAt, yieldF, h1, h3]
    refine on_kf hK6 [(1, .pointer (some ⟨bt, 0, none⟩)), (2, .int .i64 3), (3, .bool true)] (by simp [h1, h3]) hds ?_
    clear hK6 h1 h3 hds; intro s hs hds
    obtain ⟨h1, h2, h3⟩ := facts3 hs; clear hs
    refine at_ret rfl ?_
    simp only [inBlockE, thenE]
    refine ret_one rfl hds ⟨?_, hA⟩
    rw [h2, hbad]
  · have hbad : badOf P D m d = 3 := by unfold badOf; rw [if_pos (by omega)]
    (conv => arg 4; whnf)
    refine fw_region_lit rfl ?_
    simp [go_sem, opsF, opF, upF, Region.wanted, Fr.ev, Fr.put, thenE, inBlockE, Oper.semAt, yieldF, h1, x0, x1, x2, x3, e1, e2]
    refine on_kf hK5 [(1, .pointer (some ⟨bt, 0, none⟩)), (3, .bool true)] (by simp [h1]) hds ?_
    clear hK5 h1 hds; intro s hs hds
    obtain ⟨h1, h3⟩ := facts2 hs; clear hs
    refine at_true 3 rfl h3 ?_
    refine at_seq rfl fun K7 hK7 => ?_
    (conv => arg 4; whnf)
    refine fw_region_lit rfl ?_
    simp [go_sem, opsF, opF, upF, Region.wanted, Fr.ev, Fr.put, thenE, inBlockE, Oper.semAt, yieldF, h1, h3]
    refine on_kf hK7 [(1, .pointer (some ⟨bt, 0, none⟩)), (2, .int .i64 3), (3, .bool true)] (by simp [h1, h3]) hds ?_
    clear hK7 h1 h3 hds; intro s hs hds
    obtain ⟨h1, h2, h3⟩ := facts3 hs; clear hs
    refine at_ret rfl ?_
    simp only [inBlockE, thenE]
    refine ret_one rfl hds ⟨?_, hA⟩
    rw [h2, hbad]
  · have hbad : badOf P D m d = 3 := by unfold badOf; rw [if_pos (by omega)]
    (conv => arg 4; whnf)
    refine fw_region_lit rfl ?_
    simp [go_sem, opsF, opF, upF, Region.wanted, Fr.ev, Fr.put, thenE, inBlockE, Oper.semAt, yieldF, h1, x0, x1, x2, x3, e1, e2, e3]
    refine on_kf hK5 [(1, .pointer (some ⟨bt, 0, none⟩)), (3, .bool true)] (by simp [h1]) hds ?_
    clear hK5 h1 hds; intro s hs hds
    obtain ⟨h1, h3⟩ := facts2 hs; clear hs
    refine at_true 3 rfl h3 ?_
    refine at_seq rfl fun K8 hK8 => ?_
    (conv => arg 4; whnf)
    refine fw_region_lit rfl ?_
    simp [go_sem, opsF, opF, upF, Region.wanted, Fr.ev, Fr.put, thenE, inBlockE, Oper.semAt, yieldF, h1, h3]
    refine on_kf hK8 [(1, .pointer (some ⟨bt, 0, none⟩)), (2, .int .i64 3), (3, .bool true)] (by simp [h1, h3]) hds ?_
    clear hK8 h1 h3 hds; intro s hs hds
    obtain ⟨h1, h2, h3⟩ := facts3 hs; clear hs
    refine at_ret rfl ?_
    simp only [inBlockE, thenE]
    refine ret_one rfl hds ⟨?_, hA⟩
    rw [h2, hbad]
  · have hbad : badOf P D m d = 3 := by unfold badOf; rw [if_pos (by omega)]
    (conv => arg 4; whnf)
    refine fw_region_lit rfl ?_
    simp [go_sem, opsF, opF, upF, Region.wanted, Fr.ev, Fr.put, thenE, inBlockE, Oper.semAt, yieldF, h1, x0, x1, x2, x3, e1, e2, e3, e4]
    refine on_kf hK5 [(1, .pointer (some ⟨bt, 0, none⟩)), (3, .bool true)] (by simp [h1]) hds ?_
    clear hK5 h1 hds; intro s hs hds
    obtain ⟨h1, h3⟩ := facts2 hs; clear hs
    refine at_true 3 rfl h3 ?_
    refine at_seq rfl fun K9 hK9 => ?_
    (conv => arg 4; whnf)
    refine fw_region_lit rfl ?_
    simp [go_sem, opsF, opF, upF, Region.wanted, Fr.ev, Fr.put, thenE, inBlockE, Oper.semAt, yieldF, h1, h3]
    refine on_kf hK9 [(1, .pointer (some ⟨bt, 0, none⟩)), (2, .int .i64 3), (3, .bool true)] (by simp [h1, h3]) hds ?_
    clear hK9 h1 h3 hds; intro s hs hds
    obtain ⟨h1, h2, h3⟩ := facts3 hs; clear hs
    refine at_ret rfl ?_
    simp only [inBlockE, thenE]
    refine ret_one rfl hds ⟨?_, hA⟩
    rw [h2, hbad]
  · have hbad : badOf P D m d = 3 := by unfold badOf; rw [if_pos (by omega)]
    (conv => arg 4; whnf)
    refine fw_region_lit rfl ?_
    simp [go_sem, opsF, opF, upF, Region.wanted, Fr.ev, Fr.put, thenE, inBlockE, Oper.semAt, yieldF, h1, x0, x1, x2, x3, e1, e2, e3, e4, e5]
    refine on_kf hK5 [(1, .pointer (some ⟨bt, 0, none⟩)), (3, .bool true)] (by simp [h1]) hds ?_
    clear hK5 h1 hds; intro s hs hds
    obtain ⟨h1, h3⟩ := facts2 hs; clear hs
    refine at_true 3 rfl h3 ?_
    refine at_seq rfl fun K10 hK10 => ?_
    (conv => arg 4; whnf)
    refine fw_region_lit rfl ?_
    simp [go_sem, opsF, opF, upF, Region.wanted, Fr.ev, Fr.put, thenE, inBlockE, Oper.semAt, yieldF, h1, h3]
    refine on_kf hK10 [(1, .pointer (some ⟨bt, 0, none⟩)), (2, .int .i64 3), (3, .bool true)] (by simp [h1, h3]) hds ?_
    clear hK10 h1 h3 hds; intro s hs hds
    obtain ⟨h1, h2, h3⟩ := facts3 hs; clear hs
    refine at_ret rfl ?_
    simp only [inBlockE, thenE]
    refine ret_one rfl hds ⟨?_, hA⟩
    rw [h2, hbad]
  · (conv => arg 4; whnf)
    refine fw_region_lit rfl ?_
    simp [go_sem, opsF, opF, upF, Region.wanted, Fr.ev, Fr.put, thenE, inBlockE, Oper.semAt, yieldF, h1, x0, x1, x2, x3, e1, e2, e3, e4, e5]
    refine on_kf hK5 [(1, .pointer (some ⟨bt, 0, none⟩)), (3, .bool false)] (by simp [h1]) hds ?_
    clear hK5 h1 hds; intro s hs hds
    obtain ⟨h1, h3⟩ := facts2 hs; clear hs
    refine at_false 3 rfl h3 ?_
    refine at_seq rfl fun K11 hK11 => ?_
    by_cases h3' : 3 * m < d
    · have hbad : badOf P D m d = 2 := by unfold badOf; rw [if_neg (by omega), if_pos h3']
      (conv => arg 4; whnf)
      refine fw_region_lit rfl ?_
      simp [go_sem, opsF, opF, upF, Region.wanted, Fr.ev, Fr.put, thenE, inBlockE, Oper.semAt, yieldF, h1, h3, x0, x1, x2, x3, d1, h3']
      refine on_kf hK11 [(1, .pointer (some ⟨bt, 0, none⟩)), (3, .bool false), (29, .bool true)] (by simp [h1, h3]) hds ?_
      clear hK11 h1 h3 hds; intro s hs hds
      obtain ⟨h1, h3, h29⟩ := facts3 hs; clear hs
      refine at_true 29 rfl h29 ?_
      refine at_seq rfl fun K12 hK12 => ?_
      (conv => arg 4; whnf)
      refine fw_region_lit rfl ?_
      simp [go_sem, opsF, opF, upF, Region.wanted, Fr.ev, Fr.put, thenE, inBlockE, Oper.semAt, yieldF, h1, h3, h29]
      refine on_kf hK12 [(1, .pointer (some ⟨bt, 0, none⟩)), (2, .int .i64 2), (3, .bool false), (29, .bool true)] (by simp [h1, h3, h29]) hds ?_
      clear hK12 h1 h3 h29 hds; intro s hs hds
      obtain ⟨h1, h2, h3, h29⟩ := facts4 hs; clear hs
      refine at_ret rfl ?_
      simp only [inBlockE, thenE]
      refine ret_one rfl hds ⟨?_, hA⟩
      rw [h2, hbad]
    · have hbad : badOf P D m d = 0 := by unfold badOf; rw [if_neg (by omega), if_neg h3']
      (conv => arg 4; whnf)
      refine fw_region_lit rfl ?_
      simp [go_sem, opsF, opF, upF, Region.wanted, Fr.ev, Fr.put, thenE, inBlockE, Oper.semAt, yieldF, h1, h3, x0, x1, x2, x3, d1, h3']
      refine on_kf hK11 [(1, .pointer (some ⟨bt, 0, none⟩)), (3, .bool false), (29, .bool false)] (by simp [h1, h3]) hds ?_
      clear hK11 h1 h3 hds; intro s hs hds
      obtain ⟨h1, h3, h29⟩ := facts3 hs; clear hs
      refine at_false 29 rfl h29 ?_
      refine at_skip rfl ?_
      simp only [inBlockE, thenE]
      refine on_kf hK4 [(1, .pointer (some ⟨bt, 0, none⟩))] (by simp [h1, h3, h29]) hds ?_
      clear hK4 h1 h3 h29 hds; intro s hs hds
      have h1 : s.t 1 = .pointer (some ⟨bt, 0, none⟩) := hs (1, _) (List.mem_singleton_self _); clear hs
      refine at_seq rfl fun K13 hK13 => ?_
      (conv => arg 4; whnf)
      refine fw_region_lit rfl ?_
      simp [go_sem, opsF, opF, upF, Region.wanted, Fr.ev, Fr.put, thenE, inBlockE, Oper.semAt, yieldF, h1]
      refine on_kf hK13 [(1, .pointer (some ⟨bt, 0, none⟩)), (2, .int .i64 0)] (by simp [h1]) hds ?_
      clear hK13 h1 hds; intro s hs hds
      obtain ⟨h1, h2⟩ := facts2 hs; clear hs
      refine at_ret rfl ?_
      refine ret_one rfl hds ⟨?_, hA⟩
      rw [h2, hbad]
end Go.Proofs.Ytiejaopidkghdab
