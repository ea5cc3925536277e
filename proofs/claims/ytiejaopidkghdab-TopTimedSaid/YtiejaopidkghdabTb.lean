/- Clocks: what the clock's functions say. -/
import Derived.Test.YtiejaopidkghdabTa
namespace Go.Proofs.Ytiejaopidkghdab
set_option linter.unusedSimpArgs false
set_option linter.unusedVariables false
open Go.RowKit Go.Lf

theorem is_no0 {n : Int} (h : 0 ≤ n ∧ n ≤ 1099511627776) : (B3.fine ⟨n, 0, 1099511627776⟩) = true := by
  simp [B3.fine]; omega

noncomputable def body26 : Code := Try.f26.body.getD .skip
theorem is_any (n : Int) (w : World) (h : 0 ≤ n ∧ n ≤ 1099511627776) : CallsV Try.prog 26 #[.int .i64 n] w fun v w' => v = .bool true ∧ New w w' := by
  refine calls_at body26 Try.func26 rfl 6 rfl (by simp) fun s hs hds => ?_
  have h0 := hs 0 _ rfl
  clear hs
  refine at_seq rfl fun K1 hK1 => ?_
  (conv => arg 4; whnf)
  refine fw_region_lit rfl ?_
  simp [go_sem, opsF, opF, upF, Region.wanted, Fr.ev, Fr.put, thenE, inBlockE, Oper.semAt, yieldF, h0]
  refine on_kf hK1 [(0, .int .i64 n)] (by simp [h0]) hds ?_
  clear hK1 h0 hds; intro s hs hds
  have h0 : s.t 0 = .int .i64 n := hs (0, _) (List.mem_singleton_self _); clear hs
  refine at_seq rfl fun K2 hK2 => ?_
  (conv => arg 4; whnf)
  refine fw_region_lit rfl ?_
  simp [go_sem, opsF, opF, upF, Region.wanted, Fr.ev, Fr.put, thenE, inBlockE, Oper.semAt, yieldF, h0]
  refine (fine_any ⟨n, 0, 1099511627776⟩ w).on ?_
  rintro _ w1 ⟨rfl, hw1⟩
  rw [is_no0 h]
  refine on_kf hK2 [(0, .int .i64 n), (2, .bool true)] (by simp [h0]) hds ?_
  clear hK2 h0 hds; intro s hs hds
  obtain ⟨h0, h2⟩ := facts2 hs; clear hs
  exact at_ret rfl (ret_one rfl hds ⟨h2, hw1⟩)

noncomputable def body19 : Code := Try.f19.body.getD .skip
theorem asked_any (time at_ P D m d : Int) (w : World) (hP : 0 ≤ P ∧ P ≤ 1000) (hD : -1 ≤ D ∧ D ≤ 1000) (hm : 0 ≤ m ∧ m ≤ 100) (hd : 0 ≤ d ∧ d ≤ 100) (ht : 0 ≤ time ∧ time ≤ 1099511627776) (ha : 0 ≤ at_ ∧ at_ ≤ 1099511627776) :
    CallsV Try.prog 19 #[.int .i64 time, .int .i64 at_, tv P D m d] w fun v w' => v = .int .i64 (badOf P D m d) ∧ New w w' := by
  refine calls_at body19 Try.func19 rfl 21 rfl (by simp) fun s hs hds => ?_
  have h0 := hs 0 _ rfl
  have h1 := hs 1 _ rfl
  have h2 := hs 2 _ rfl
  clear hs
  unfold tv at h2
  have hb := Blk.new w #[.int .i64 P, .int .i64 D, .int .i64 m, .int .i64 d] 24
  have hA := Frm.alloc (fun _ => False) w (.cells #[.int .i64 P, .int .i64 D, .int .i64 m, .int .i64 d] 24)
  refine at_seq rfl fun K3 hK3 => ?_
  (conv => arg 4; whnf)
  refine fw_region_lit rfl ?_
  simp [go_sem, opsF, opF, upF, Region.wanted, Fr.ev, Fr.put, thenE, inBlockE, Oper.semAt, yieldF, h0, h1, h2]
  refine on_kf hK3 [(0, .int .i64 time), (1, .int .i64 at_), (5, .pointer (some ⟨w.heap.size, 0, none⟩))] (by simp [h0, h1, h2]) hds ?_
  clear hK3 h0 h1 h2 hds; intro s hs hds
  obtain ⟨h0, h1, h5⟩ := facts3 hs; clear hs
  generalize w.alloc (.cells #[.int .i64 P, .int .i64 D, .int .i64 m, .int .i64 d] 24) = w1 at *
  generalize w.heap.size = bt at *
  have x0 := hb.cell 0
  have x1 := hb.cell 1
  have x2 := hb.cell 2
  have x3 := hb.cell 3
  simp only [List.getElem?_toArray, List.getElem?_cons_zero, List.getElem?_cons_succ] at x0 x1 x2 x3
  refine at_seq rfl fun K4 hK4 => ?_
  refine at_seq rfl fun K5 hK5 => ?_
  (conv => arg 4; whnf)
  refine fw_region_lit rfl ?_
  simp [go_sem, opsF, opF, upF, Region.wanted, Fr.ev, Fr.put, thenE, inBlockE, Oper.semAt, yieldF, h0, h1, h5, x0, x1, x2, x3]
  refine (check_any P D m d w1 hP hD hm hd).on ?_
  rintro _ w2 ⟨rfl, hw2⟩
  refine on_kf hK5 [(0, .int .i64 time), (1, .int .i64 at_), (5, .pointer (some ⟨bt, 0, none⟩)), (7, .int .i64 (badOf P D m d))] (by simp [h0, h1, h5]) hds ?_
  clear hK5 h0 h1 h5 hds; intro s hs hds
  obtain ⟨h0, h1, h5, h7⟩ := facts4 hs; clear hs
  refine at_seq rfl fun K6 hK6 => ?_
  generalize hbd : badOf P D m d = bad at *
  by_cases hz : bad = 0
  · (conv => arg 4; whnf)
    refine fw_region_lit rfl ?_
    simp [go_sem, opsF, opF, upF, Region.wanted, Fr.ev, Fr.put, thenE, inBlockE, Oper.semAt, yieldF, h0, h1, h5, h7, hz]
    refine on_kf hK6 [(0, .int .i64 time), (1, .int .i64 at_), (5, .pointer (some ⟨bt, 0, none⟩)), (7, .int .i64 bad), (11, .bool false)] (by simp [h0, h1, h5, h7]) hds ?_
    clear hK6 h0 h1 h5 h7 hds; intro s hs hds
    obtain ⟨h0, h1, h5, h7, h11⟩ := facts5 hs; clear hs
    refine at_false 11 rfl h11 ?_
    refine at_skip rfl ?_
    simp only [inBlockE, thenE]
    refine on_kf hK4 [(0, .int .i64 time), (1, .int .i64 at_), (5, .pointer (some ⟨bt, 0, none⟩)), (7, .int .i64 bad)] (by simp [h0, h1, h5, h7, h11]) hds ?_
    clear hK4 h0 h1 h5 h7 h11 hds; intro s hs hds
    obtain ⟨h0, h1, h5, h7⟩ := facts4 hs; clear hs
    refine at_seq rfl fun K7 hK7 => ?_
    refine at_seq rfl fun K8 hK8 => ?_
    (conv => arg 4; whnf)
    refine fw_region_lit rfl ?_
    simp [go_sem, opsF, opF, upF, Region.wanted, Fr.ev, Fr.put, thenE, inBlockE, Oper.semAt, yieldF, h0, h1, h5, h7]
    refine (is_any time w2 ht).on ?_
    rintro _ w3 ⟨rfl, hw3⟩
    simp [go_sem, opsF, opF, upF, Region.wanted, Fr.ev, Fr.put, thenE, inBlockE, Oper.semAt, yieldF, h0, h1, h5, h7]
    refine (is_any at_ w3 ha).on ?_
    rintro _ w4 ⟨rfl, hw4⟩
    simp [go_sem, opsF, opF, upF, Region.wanted, Fr.ev, Fr.put, thenE, inBlockE, Oper.semAt, yieldF, h0, h1, h5, h7]
    refine on_kf hK8 [(0, .int .i64 time), (1, .int .i64 at_), (5, .pointer (some ⟨bt, 0, none⟩)), (7, .int .i64 bad), (20, .bool false)] (by simp [h0, h1, h5, h7]) hds ?_
    clear hK8 h0 h1 h5 h7 hds; intro s hs hds
    obtain ⟨h0, h1, h5, h7, h20⟩ := facts5 hs; clear hs
    refine at_false 20 rfl h20 ?_
    refine at_skip rfl ?_
    simp only [inBlockE, thenE]
    refine on_kf hK7 [(0, .int .i64 time), (1, .int .i64 at_), (5, .pointer (some ⟨bt, 0, none⟩)), (7, .int .i64 bad)] (by simp [h0, h1, h5, h7, h20]) hds ?_
    clear hK7 h0 h1 h5 h7 h20 hds; intro s hs hds
    obtain ⟨h0, h1, h5, h7⟩ := facts4 hs; clear hs
    refine at_seq rfl fun K9 hK9 => ?_
    (conv => arg 4; whnf)
    refine fw_region_lit rfl ?_
    simp [go_sem, opsF, opF, upF, Region.wanted, Fr.ev, Fr.put, thenE, inBlockE, Oper.semAt, yieldF, h0, h1, h5, h7]
    refine on_kf hK9 [(0, .int .i64 time), (1, .int .i64 at_), (5, .pointer (some ⟨bt, 0, none⟩)), (6, .int .i64 0), (7, .int .i64 bad)] (by simp [h0, h1, h5, h7]) hds ?_
    clear hK9 h0 h1 h5 h7 hds; intro s hs hds
    obtain ⟨h0, h1, h5, h6, h7⟩ := facts5 hs; clear hs
    refine at_ret rfl (ret_one rfl hds ⟨?_, New.trans (New.trans (New.trans hA hw2) hw3) hw4⟩)
    rw [h6, hz]
  · have hz' : (bad != 0) = true := by simp [hz]
    (conv => arg 4; whnf)
    refine fw_region_lit rfl ?_
    simp [go_sem, opsF, opF, upF, Region.wanted, Fr.ev, Fr.put, thenE, inBlockE, Oper.semAt, yieldF, h0, h1, h5, h7, hz']
    refine on_kf hK6 [(0, .int .i64 time), (1, .int .i64 at_), (5, .pointer (some ⟨bt, 0, none⟩)), (7, .int .i64 bad), (11, .bool true)] (by simp [h0, h1, h5, h7]) hds ?_
    clear hK6 h0 h1 h5 h7 hds; intro s hs hds
    obtain ⟨h0, h1, h5, h7, h11⟩ := facts5 hs; clear hs
    refine at_true 11 rfl h11 ?_
    refine at_seq rfl fun K10 hK10 => ?_
    (conv => arg 4; whnf)
    refine fw_region_lit rfl ?_
    simp [go_sem, opsF, opF, upF, Region.wanted, Fr.ev, Fr.put, thenE, inBlockE, Oper.semAt, yieldF, h0, h1, h5, h7, h11]
    refine on_kf hK10 [(0, .int .i64 time), (1, .int .i64 at_), (5, .pointer (some ⟨bt, 0, none⟩)), (6, .int .i64 bad), (7, .int .i64 bad), (11, .bool true)] (by simp [h0, h1, h5, h7, h11]) hds ?_
    clear hK10 h0 h1 h5 h7 h11 hds; intro s hs hds
    obtain ⟨h0, h1, h5, h6, h7, h11⟩ := facts6 hs; clear hs
    refine at_ret rfl ?_
    simp only [inBlockE, thenE]
    exact ret_one rfl hds ⟨h6, New.trans hA hw2⟩

noncomputable def body23 : Code := Try.f23.body.getD .skip
theorem expires_any (at_ time P D m d : Int) (w : World) (hP : 0 ≤ P ∧ P ≤ 1000) (ht : 0 ≤ time ∧ time ≤ 1099511627776) :
    CallsV Try.prog 23 #[.int .i64 at_, .int .i64 time, tv P D m d] w fun v w' => v = .bool (decide (time + P ≤ at_)) ∧ New w w' := by
  refine calls_at body23 Try.func23 rfl 13 rfl (by simp) fun s hs hds => ?_
  have h0 := hs 0 _ rfl
  have h1 := hs 1 _ rfl
  have h2 := hs 2 _ rfl
  clear hs
  unfold tv at h2
  have hb := Blk.new w #[.int .i64 P, .int .i64 D, .int .i64 m, .int .i64 d] 24
  have hA := Frm.alloc (fun _ => False) w (.cells #[.int .i64 P, .int .i64 D, .int .i64 m, .int .i64 d] 24)
  refine at_seq rfl fun K11 hK11 => ?_
  (conv => arg 4; whnf)
  refine fw_region_lit rfl ?_
  simp [go_sem, opsF, opF, upF, Region.wanted, Fr.ev, Fr.put, thenE, inBlockE, Oper.semAt, yieldF, h0, h1, h2]
  refine on_kf hK11 [(0, .int .i64 at_), (1, .int .i64 time), (5, .pointer (some ⟨w.heap.size, 0, none⟩))] (by simp [h0, h1, h2]) hds ?_
  clear hK11 h0 h1 h2 hds; intro s hs hds
  obtain ⟨h0, h1, h5⟩ := facts3 hs; clear hs
  generalize w.alloc (.cells #[.int .i64 P, .int .i64 D, .int .i64 m, .int .i64 d] 24) = w1 at *
  generalize w.heap.size = bt at *
  have x0 := hb.cell 0
  have x1 := hb.cell 1
  have x2 := hb.cell 2
  have x3 := hb.cell 3
  simp only [List.getElem?_toArray, List.getElem?_cons_zero, List.getElem?_cons_succ] at x0 x1 x2 x3
  have d1 : IntKind.i64.wrap (time + P) = time + P := IntWalk.i64_in _ (by omega)
  refine at_seq rfl fun K12 hK12 => ?_
  (conv => arg 4; whnf)
  refine fw_region_lit rfl ?_
  simp [go_sem, opsF, opF, upF, Region.wanted, Fr.ev, Fr.put, thenE, inBlockE, Oper.semAt, yieldF, h0, h1, h5, x0, d1]
  refine on_kf hK12 [(0, .int .i64 at_), (1, .int .i64 time), (5, .pointer (some ⟨bt, 0, none⟩)), (6, .bool (decide (time + P ≤ at_)))] (by simp [h0, h1, h5]) hds ?_
  clear hK12 h0 h1 h5 hds; intro s hs hds
  obtain ⟨h0, h1, h5, h6⟩ := facts4 hs; clear hs
  exact at_ret rfl (ret_one rfl hds ⟨h6, hA⟩)

noncomputable def body21 : Code := Try.f21.body.getD .skip
theorem ahead_any (at_ time P D m d : Int) (w : World) (hD : -1 ≤ D ∧ D ≤ 1000) (ha : 0 ≤ at_ ∧ at_ ≤ 1099511627776) :
    CallsV Try.prog 21 #[.int .i64 at_, .int .i64 time, tv P D m d] w fun v w' => v = .bool (decide (at_ + max D 1 ≤ time)) ∧ New w w' := by
  refine calls_at body21 Try.func21 rfl 14 rfl (by simp) fun s hs hds => ?_
  have h0 := hs 0 _ rfl
  have h1 := hs 1 _ rfl
  have h2 := hs 2 _ rfl
  clear hs
  unfold tv at h2
  have hb := Blk.new w #[.int .i64 P, .int .i64 D, .int .i64 m, .int .i64 d] 24
  have hA := Frm.alloc (fun _ => False) w (.cells #[.int .i64 P, .int .i64 D, .int .i64 m, .int .i64 d] 24)
  refine at_seq rfl fun K13 hK13 => ?_
  (conv => arg 4; whnf)
  refine fw_region_lit rfl ?_
  simp [go_sem, opsF, opF, upF, Region.wanted, Fr.ev, Fr.put, thenE, inBlockE, Oper.semAt, yieldF, h0, h1, h2]
  refine on_kf hK13 [(0, .int .i64 at_), (1, .int .i64 time), (5, .pointer (some ⟨w.heap.size, 0, none⟩))] (by simp [h0, h1, h2]) hds ?_
  clear hK13 h0 h1 h2 hds; intro s hs hds
  obtain ⟨h0, h1, h5⟩ := facts3 hs; clear hs
  generalize w.alloc (.cells #[.int .i64 P, .int .i64 D, .int .i64 m, .int .i64 d] 24) = w1 at *
  generalize w.heap.size = bt at *
  have x0 := hb.cell 0
  have x1 := hb.cell 1
  have x2 := hb.cell 2
  have x3 := hb.cell 3
  simp only [List.getElem?_toArray, List.getElem?_cons_zero, List.getElem?_cons_succ] at x0 x1 x2 x3
  by_cases hD1 : D < 1
  · have d1 : IntKind.i64.wrap (at_ + 1) = at_ + 1 := IntWalk.i64_in _ (by omega)
    have hm1 : max D 1 = 1 := by omega
    rw [hm1]
    refine at_seq rfl fun K14 hK14 => ?_
    (conv => arg 4; whnf)
    refine fw_region_lit rfl ?_
    simp [go_sem, opsF, opF, upF, Region.wanted, Fr.ev, Fr.put, thenE, inBlockE, Oper.semAt, yieldF, h0, h1, h5, x1, d1, hD1]
    refine on_kf hK14 [(0, .int .i64 at_), (1, .int .i64 time), (5, .pointer (some ⟨bt, 0, none⟩)), (6, .bool (decide (at_ + 1 ≤ time)))] (by simp [h0, h1, h5]) hds ?_
    clear hK14 h0 h1 h5 hds; intro s hs hds
    obtain ⟨h0, h1, h5, h6⟩ := facts4 hs; clear hs
    exact at_ret rfl (ret_one rfl hds ⟨h6, hA⟩)
  · have d1 : IntKind.i64.wrap (at_ + D) = at_ + D := IntWalk.i64_in _ (by omega)
    have hm1 : max D 1 = D := by omega
    rw [hm1]
    refine at_seq rfl fun K15 hK15 => ?_
    (conv => arg 4; whnf)
    refine fw_region_lit rfl ?_
    simp [go_sem, opsF, opF, upF, Region.wanted, Fr.ev, Fr.put, thenE, inBlockE, Oper.semAt, yieldF, h0, h1, h5, x1, d1, hD1]
    refine on_kf hK15 [(0, .int .i64 at_), (1, .int .i64 time), (5, .pointer (some ⟨bt, 0, none⟩)), (6, .bool (decide (at_ + D ≤ time)))] (by simp [h0, h1, h5]) hds ?_
    clear hK15 h0 h1 h5 hds; intro s hs hds
    obtain ⟨h0, h1, h5, h6⟩ := facts4 hs; clear hs
    exact at_ret rfl (ret_one rfl hds ⟨h6, hA⟩)

noncomputable def body9 : Code := Try.f9.body.getD .skip
theorem expired_any (time at_ P D m d : Int) (w : World) (hP : 0 ≤ P ∧ P ≤ 1000) (hD : -1 ≤ D ∧ D ≤ 1000) (hm : 0 ≤ m ∧ m ≤ 100) (hd : 0 ≤ d ∧ d ≤ 100) (ht : 0 ≤ time ∧ time ≤ 1099511627776) (ha : 0 ≤ at_ ∧ at_ ≤ 1099511627776) :
    CallsV Try.prog 9 #[.int .i64 time, .int .i64 at_, tv P D m d] w fun v w' => v = .tuple #[.bool (decide (badOf P D m d = 0) && decide (time + P ≤ at_)), .int .i64 (badOf P D m d)] ∧ New w w' := by
  refine calls_at body9 Try.func9 rfl 22 rfl (by simp) fun s hs hds => ?_
  have h0 := hs 0 _ rfl
  have h1 := hs 1 _ rfl
  have h2 := hs 2 _ rfl
  clear hs
  unfold tv at h2
  have hb := Blk.new w #[.int .i64 P, .int .i64 D, .int .i64 m, .int .i64 d] 24
  have hA := Frm.alloc (fun _ => False) w (.cells #[.int .i64 P, .int .i64 D, .int .i64 m, .int .i64 d] 24)
  refine at_seq rfl fun K16 hK16 => ?_
  (conv => arg 4; whnf)
  refine fw_region_lit rfl ?_
  simp [go_sem, opsF, opF, upF, Region.wanted, Fr.ev, Fr.put, thenE, inBlockE, Oper.semAt, yieldF, h0, h1, h2]
  refine on_kf hK16 [(0, .int .i64 time), (1, .int .i64 at_), (5, .pointer (some ⟨w.heap.size, 0, none⟩))] (by simp [h0, h1, h2]) hds ?_
  clear hK16 h0 h1 h2 hds; intro s hs hds
  obtain ⟨h0, h1, h5⟩ := facts3 hs; clear hs
  generalize w.alloc (.cells #[.int .i64 P, .int .i64 D, .int .i64 m, .int .i64 d] 24) = w1 at *
  generalize w.heap.size = bt at *
  have x0 := hb.cell 0
  have x1 := hb.cell 1
  have x2 := hb.cell 2
  have x3 := hb.cell 3
  simp only [List.getElem?_toArray, List.getElem?_cons_zero, List.getElem?_cons_succ] at x0 x1 x2 x3
  refine at_seq rfl fun K17 hK17 => ?_
  (conv => arg 4; whnf)
  refine fw_region_lit rfl ?_
  simp [go_sem, opsF, opF, upF, Region.wanted, Fr.ev, Fr.put, thenE, inBlockE, Oper.semAt, yieldF, h0, h1, h5, x0, x1, x2, x3]
  refine (asked_any time at_ P D m d w1 hP hD hm hd ht ha).on ?_
  rintro _ w2 ⟨rfl, hw2⟩
  refine on_kf hK17 [(0, .int .i64 time), (1, .int .i64 at_), (5, .pointer (some ⟨bt, 0, none⟩)), (8, .int .i64 (badOf P D m d))] (by simp [h0, h1, h5]) hds ?_
  clear hK17 h0 h1 h5 hds; intro s hs hds
  obtain ⟨h0, h1, h5, h8⟩ := facts4 hs; clear hs
  have y0 := (hb.frm hw2 (fun h => h)).cell 0
  have y1 := (hb.frm hw2 (fun h => h)).cell 1
  have y2 := (hb.frm hw2 (fun h => h)).cell 2
  have y3 := (hb.frm hw2 (fun h => h)).cell 3
  simp only [List.getElem?_toArray, List.getElem?_cons_zero, List.getElem?_cons_succ] at y0 y1 y2 y3
  generalize hbd : badOf P D m d = bad at *
  refine at_seq rfl fun K18 hK18 => ?_
  by_cases hz : bad = 0
  · (conv => arg 4; whnf)
    refine fw_region_lit rfl ?_
    simp [go_sem, opsF, opF, upF, Region.wanted, Fr.ev, Fr.put, thenE, inBlockE, Oper.semAt, yieldF, h0, h1, h5, h8, hz, y0, y1, y2, y3]
    refine (expires_any at_ time P D m d w2 hP ht).on ?_
    rintro _ w3 ⟨rfl, hw3⟩
    refine on_kf hK18 [(0, .int .i64 time), (1, .int .i64 at_), (5, .pointer (some ⟨bt, 0, none⟩)), (6, .bool (decide (time + P ≤ at_))), (7, .int .i64 0), (8, .int .i64 bad)] (by simp [h0, h1, h5, h8]) hds ?_
    clear hK18 h0 h1 h5 h8 hds; intro s hs hds
    obtain ⟨h0, h1, h5, h6, h7, h8⟩ := facts6 hs; clear hs
    refine at_ret rfl (ret_two rfl hds ⟨?_, New.trans (New.trans hA hw2) hw3⟩)
    rw [h6, h7, hz]
    simp
  · have hz' : (bad == 0) = false := by simp [hz]
    (conv => arg 4; whnf)
    refine fw_region_lit rfl ?_
    simp [go_sem, opsF, opF, upF, Region.wanted, Fr.ev, Fr.put, thenE, inBlockE, Oper.semAt, yieldF, h0, h1, h5, h8, hz, hz']
    refine on_kf hK18 [(0, .int .i64 time), (1, .int .i64 at_), (5, .pointer (some ⟨bt, 0, none⟩)), (6, .bool false), (7, .int .i64 bad), (8, .int .i64 bad)] (by simp [h0, h1, h5, h8]) hds ?_
    clear hK18 h0 h1 h5 h8 hds; intro s hs hds
    obtain ⟨h0, h1, h5, h6, h7, h8⟩ := facts6 hs; clear hs
    refine at_ret rfl (ret_two rfl hds ⟨?_, New.trans hA hw2⟩)
    rw [h6, h7]
    simp [hz]

noncomputable def body10 : Code := Try.f10.body.getD .skip
theorem isAhead_any (time at_ P D m d : Int) (w : World) (hP : 0 ≤ P ∧ P ≤ 1000) (hD : -1 ≤ D ∧ D ≤ 1000) (hm : 0 ≤ m ∧ m ≤ 100) (hd : 0 ≤ d ∧ d ≤ 100) (ht : 0 ≤ time ∧ time ≤ 1099511627776) (ha : 0 ≤ at_ ∧ at_ ≤ 1099511627776) :
    CallsV Try.prog 10 #[.int .i64 time, .int .i64 at_, tv P D m d] w fun v w' => v = .tuple #[.bool (decide (badOf P D m d = 0) && decide (at_ + max D 1 ≤ time)), .int .i64 (badOf P D m d)] ∧ New w w' := by
  refine calls_at body10 Try.func10 rfl 22 rfl (by simp) fun s hs hds => ?_
  have h0 := hs 0 _ rfl
  have h1 := hs 1 _ rfl
  have h2 := hs 2 _ rfl
  clear hs
  unfold tv at h2
  have hb := Blk.new w #[.int .i64 P, .int .i64 D, .int .i64 m, .int .i64 d] 24
  have hA := Frm.alloc (fun _ => False) w (.cells #[.int .i64 P, .int .i64 D, .int .i64 m, .int .i64 d] 24)
  refine at_seq rfl fun K19 hK19 => ?_
  (conv => arg 4; whnf)
  refine fw_region_lit rfl ?_
  simp [go_sem, opsF, opF, upF, Region.wanted, Fr.ev, Fr.put, thenE, inBlockE, Oper.semAt, yieldF, h0, h1, h2]
  refine on_kf hK19 [(0, .int .i64 time), (1, .int .i64 at_), (5, .pointer (some ⟨w.heap.size, 0, none⟩))] (by simp [h0, h1, h2]) hds ?_
  clear hK19 h0 h1 h2 hds; intro s hs hds
  obtain ⟨h0, h1, h5⟩ := facts3 hs; clear hs
  generalize w.alloc (.cells #[.int .i64 P, .int .i64 D, .int .i64 m, .int .i64 d] 24) = w1 at *
  generalize w.heap.size = bt at *
  have x0 := hb.cell 0
  have x1 := hb.cell 1
  have x2 := hb.cell 2
  have x3 := hb.cell 3
  simp only [List.getElem?_toArray, List.getElem?_cons_zero, List.getElem?_cons_succ] at x0 x1 x2 x3
  refine at_seq rfl fun K20 hK20 => ?_
  (conv => arg 4; whnf)
  refine fw_region_lit rfl ?_
  simp [go_sem, opsF, opF, upF, Region.wanted, Fr.ev, Fr.put, thenE, inBlockE, Oper.semAt, yieldF, h0, h1, h5, x0, x1, x2, x3]
  refine (asked_any time at_ P D m d w1 hP hD hm hd ht ha).on ?_
  rintro _ w2 ⟨rfl, hw2⟩
  refine on_kf hK20 [(0, .int .i64 time), (1, .int .i64 at_), (5, .pointer (some ⟨bt, 0, none⟩)), (8, .int .i64 (badOf P D m d))] (by simp [h0, h1, h5]) hds ?_
  clear hK20 h0 h1 h5 hds; intro s hs hds
  obtain ⟨h0, h1, h5, h8⟩ := facts4 hs; clear hs
  have y0 := (hb.frm hw2 (fun h => h)).cell 0
  have y1 := (hb.frm hw2 (fun h => h)).cell 1
  have y2 := (hb.frm hw2 (fun h => h)).cell 2
  have y3 := (hb.frm hw2 (fun h => h)).cell 3
  simp only [List.getElem?_toArray, List.getElem?_cons_zero, List.getElem?_cons_succ] at y0 y1 y2 y3
  generalize hbd : badOf P D m d = bad at *
  refine at_seq rfl fun K21 hK21 => ?_
  by_cases hz : bad = 0
  · (conv => arg 4; whnf)
    refine fw_region_lit rfl ?_
    simp [go_sem, opsF, opF, upF, Region.wanted, Fr.ev, Fr.put, thenE, inBlockE, Oper.semAt, yieldF, h0, h1, h5, h8, hz, y0, y1, y2, y3]
    refine (ahead_any at_ time P D m d w2 hD ha).on ?_
    rintro _ w3 ⟨rfl, hw3⟩
    refine on_kf hK21 [(0, .int .i64 time), (1, .int .i64 at_), (5, .pointer (some ⟨bt, 0, none⟩)), (6, .bool (decide (at_ + max D 1 ≤ time))), (7, .int .i64 0), (8, .int .i64 bad)] (by simp [h0, h1, h5, h8]) hds ?_
    clear hK21 h0 h1 h5 h8 hds; intro s hs hds
    obtain ⟨h0, h1, h5, h6, h7, h8⟩ := facts6 hs; clear hs
    refine at_ret rfl (ret_two rfl hds ⟨?_, New.trans (New.trans hA hw2) hw3⟩)
    rw [h6, h7, hz]
    simp
  · have hz' : (bad == 0) = false := by simp [hz]
    (conv => arg 4; whnf)
    refine fw_region_lit rfl ?_
    simp [go_sem, opsF, opF, upF, Region.wanted, Fr.ev, Fr.put, thenE, inBlockE, Oper.semAt, yieldF, h0, h1, h5, h8, hz, hz']
    refine on_kf hK21 [(0, .int .i64 time), (1, .int .i64 at_), (5, .pointer (some ⟨bt, 0, none⟩)), (6, .bool false), (7, .int .i64 bad), (8, .int .i64 bad)] (by simp [h0, h1, h5, h8]) hds ?_
    clear hK21 h0 h1 h5 h8 hds; intro s hs hds
    obtain ⟨h0, h1, h5, h6, h7, h8⟩ := facts6 hs; clear hs
    refine at_ret rfl (ret_two rfl hds ⟨?_, New.trans hA hw2⟩)
    rw [h6, h7]
    simp [hz]

end Go.Proofs.Ytiejaopidkghdab
