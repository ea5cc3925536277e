/- Clocks: what the clock's functions say, and what the law says beside them. -/
import Derived.Test.YtiejaopidkghdabTb
namespace Go.Proofs.Ytiejaopidkghdab
set_option linter.unusedSimpArgs false
set_option linter.unusedVariables false
open Go.RowKit Go.Lf

def lookOf (time at_ P D m d : Int) : Int := if badOf P D m d = 0 then (if time + P ≤ at_ then 16 else if at_ + max D 1 ≤ time then 17 else 0) else badOf P D m d

noncomputable def body11 : Code := Try.f11.body.getD .skip
set_option maxHeartbeats 1000000 in
theorem look_any (time at_ P D m d : Int) (w : World) (hP : 0 ≤ P ∧ P ≤ 1000) (hD : -1 ≤ D ∧ D ≤ 1000) (hm : 0 ≤ m ∧ m ≤ 100) (hd : 0 ≤ d ∧ d ≤ 100) (ht : 0 ≤ time ∧ time ≤ 1099511627776) (ha : 0 ≤ at_ ∧ at_ ≤ 1099511627776) :
    CallsV Try.prog 11 #[.int .i64 time, .int .i64 at_, tv P D m d] w fun v w' => v = .int .i64 (lookOf time at_ P D m d) ∧ New w w' := by
  refine calls_at body11 Try.func11 rfl 27 rfl (by simp) fun s hs hds => ?_
  have h0 := hs 0 _ rfl
  have h1 := hs 1 _ rfl
  have h2 := hs 2 _ rfl
  clear hs
  unfold tv at h2
  have hb := Blk.new w #[.int .i64 P, .int .i64 D, .int .i64 m, .int .i64 d] 24
  have hA := Frm.alloc (fun _ => False) w (.cells #[.int .i64 P, .int .i64 D, .int .i64 m, .int .i64 d] 24)
  refine at_seq rfl fun K1 hK1 => ?_
  (conv => arg 4; whnf)
  refine fw_region_lit rfl ?_
  simp [go_sem, opsF, opF, upF, Region.wanted, Fr.ev, Fr.put, thenE, inBlockE, Oper.semAt, yieldF, h0, h1, h2]
  refine on_kf hK1 [(0, .int .i64 time), (1, .int .i64 at_), (5, .pointer (some ⟨w.heap.size, 0, none⟩))] (by simp [h0, h1, h2]) hds ?_
  clear hK1 h0 h1 h2 hds; intro s hs hds
  obtain ⟨h0, h1, h5⟩ := facts3 hs; clear hs
  generalize w.alloc (.cells #[.int .i64 P, .int .i64 D, .int .i64 m, .int .i64 d] 24) = w1 at *
  generalize w.heap.size = bt at *
  have x0 := hb.cell 0
  have x1 := hb.cell 1
  have x2 := hb.cell 2
  have x3 := hb.cell 3
  simp only [List.getElem?_toArray, List.getElem?_cons_zero, List.getElem?_cons_succ] at x0 x1 x2 x3
  refine at_seq rfl fun K2 hK2 => ?_
  refine at_seq rfl fun K3 hK3 => ?_
  (conv => arg 4; whnf)
  refine fw_region_lit rfl ?_
  simp [go_sem, opsF, opF, upF, Region.wanted, Fr.ev, Fr.put, thenE, inBlockE, Oper.semAt, yieldF, h0, h1, h5, x0, x1, x2, x3]
  refine (asked_any time at_ P D m d w1 hP hD hm hd ht ha).on ?_
  rintro _ w2 ⟨rfl, hw2⟩
  refine on_kf hK3 [(0, .int .i64 time), (1, .int .i64 at_), (5, .pointer (some ⟨bt, 0, none⟩)), (7, .int .i64 (badOf P D m d))] (by simp [h0, h1, h5]) hds ?_
  clear hK3 h0 h1 h5 hds; intro s hs hds
  obtain ⟨h0, h1, h5, h7⟩ := facts4 hs; clear hs
  have y0 := (hb.frm hw2 (fun h => h)).cell 0
  have y1 := (hb.frm hw2 (fun h => h)).cell 1
  have y2 := (hb.frm hw2 (fun h => h)).cell 2
  have y3 := (hb.frm hw2 (fun h => h)).cell 3
  simp only [List.getElem?_toArray, List.getElem?_cons_zero, List.getElem?_cons_succ] at y0 y1 y2 y3
  refine at_seq rfl fun K4 hK4 => ?_
  unfold lookOf at *
  generalize hbd : badOf P D m d = bad at *
  by_cases hz : bad = 0
  · (conv => arg 4; whnf)
    refine fw_region_lit rfl ?_
    simp [go_sem, opsF, opF, upF, Region.wanted, Fr.ev, Fr.put, thenE, inBlockE, Oper.semAt, yieldF, h0, h1, h5, h7, hz]
    refine on_kf hK4 [(0, .int .i64 time), (1, .int .i64 at_), (5, .pointer (some ⟨bt, 0, none⟩)), (7, .int .i64 bad), (14, .bool false)] (by simp [h0, h1, h5, h7]) hds ?_
    clear hK4 h0 h1 h5 h7 hds; intro s hs hds
    obtain ⟨h0, h1, h5, h7, h14⟩ := facts5 hs; clear hs
    refine at_false 14 rfl h14 ?_
    refine at_skip rfl ?_
    simp only [inBlockE, thenE]
    refine on_kf hK2 [(0, .int .i64 time), (1, .int .i64 at_), (5, .pointer (some ⟨bt, 0, none⟩)), (7, .int .i64 bad)] (by simp [h0, h1, h5, h7, h14]) hds ?_
    clear hK2 h0 h1 h5 h7 h14 hds; intro s hs hds
    obtain ⟨h0, h1, h5, h7⟩ := facts4 hs; clear hs
    refine at_seq rfl fun K5 hK5 => ?_
    refine at_seq rfl fun K6 hK6 => ?_
    (conv => arg 4; whnf)
    refine fw_region_lit rfl ?_
    simp [go_sem, opsF, opF, upF, Region.wanted, Fr.ev, Fr.put, thenE, inBlockE, Oper.semAt, yieldF, h0, h1, h5, h7]
    refine on_kf hK6 [(0, .int .i64 time), (1, .int .i64 at_), (5, .pointer (some ⟨bt, 0, none⟩)), (7, .int .i64 bad), (8, .int .i64 at_)] (by simp [h0, h1, h5, h7]) hds ?_
    clear hK6 h0 h1 h5 h7 hds; intro s hs hds
    obtain ⟨h0, h1, h5, h7, h8⟩ := facts5 hs; clear hs
    refine at_block 0 rfl ?_
    refine at_seq rfl fun K7 hK7 => ?_
    (conv => arg 4; whnf)
    refine fw_region_lit rfl ?_
    simp [go_sem, opsF, opF, upF, Region.wanted, Fr.ev, Fr.put, thenE, inBlockE, Oper.semAt, yieldF, h0, h1, h5, h7, h8, y0, y1, y2, y3]
    refine (expires_any at_ time P D m d w2 hP ht).on ?_
    rintro _ w3 ⟨rfl, hw3⟩
    refine on_kf hK7 [(0, .int .i64 time), (1, .int .i64 at_), (5, .pointer (some ⟨bt, 0, none⟩)), (7, .int .i64 bad), (8, .int .i64 at_), (17, .bool (decide (time + P ≤ at_)))] (by simp [h0, h1, h5, h7, h8]) hds ?_
    clear hK7 h0 h1 h5 h7 h8 hds; intro s hs hds
    obtain ⟨h0, h1, h5, h7, h8, h17⟩ := facts6 hs; clear hs
    by_cases h1' : time + P ≤ at_
    · rw [decide_eq_true h1'] at h17
      refine at_true 17 rfl h17 ?_
      refine at_seq rfl fun K8 hK8 => ?_
      (conv => arg 4; whnf)
      refine fw_region_lit rfl ?_
      simp [go_sem, opsF, opF, upF, Region.wanted, Fr.ev, Fr.put, thenE, inBlockE, Oper.semAt, yieldF, h0, h1, h5, h7, h8, h17]
      refine on_kf hK8 [(0, .int .i64 time), (1, .int .i64 at_), (5, .pointer (some ⟨bt, 0, none⟩)), (6, .int .i64 16), (7, .int .i64 bad), (8, .int .i64 at_), (17, .bool true)] (by simp [h0, h1, h5, h7, h8, h17]) hds ?_
      clear hK8 h0 h1 h5 h7 h8 h17 hds; intro s hs hds
      obtain ⟨h0, h1, h5, h6, h7, h8, h17⟩ := facts7 hs; clear hs
      refine at_ret rfl ?_
      simp only [inBlockE, thenE]
      refine ret_one rfl hds ⟨?_, New.trans (New.trans hA hw2) hw3⟩
      rw [h6, if_pos hz, if_pos h1']
    · rw [decide_eq_false h1'] at h17
      refine at_false 17 rfl h17 ?_
      have z0 := (hb.frm (New.trans hw2 hw3) (fun h => h)).cell 0
      have z1 := (hb.frm (New.trans hw2 hw3) (fun h => h)).cell 1
      have z2 := (hb.frm (New.trans hw2 hw3) (fun h => h)).cell 2
      have z3 := (hb.frm (New.trans hw2 hw3) (fun h => h)).cell 3
      simp only [List.getElem?_toArray, List.getElem?_cons_zero, List.getElem?_cons_succ] at z0 z1 z2 z3
      refine at_seq rfl fun K9 hK9 => ?_
      (conv => arg 4; whnf)
      refine fw_region_lit rfl ?_
      simp [go_sem, opsF, opF, upF, Region.wanted, Fr.ev, Fr.put, thenE, inBlockE, Oper.semAt, yieldF, h0, h1, h5, h7, h8, h17, z0, z1, z2, z3]
      refine (ahead_any at_ time P D m d w3 hD ha).on ?_
      rintro _ w4 ⟨rfl, hw4⟩
      refine on_kf hK9 [(0, .int .i64 time), (1, .int .i64 at_), (5, .pointer (some ⟨bt, 0, none⟩)), (7, .int .i64 bad), (8, .int .i64 at_), (17, .bool false), (22, .bool (decide (at_ + max D 1 ≤ time)))] (by simp [h0, h1, h5, h7, h8, h17]) hds ?_
      clear hK9 h0 h1 h5 h7 h8 h17 hds; intro s hs hds
      obtain ⟨h0, h1, h5, h7, h8, h17, h22⟩ := facts7 hs; clear hs
      by_cases h2' : at_ + max D 1 ≤ time
      · rw [decide_eq_true h2'] at h22
        refine at_true 22 rfl h22 ?_
        refine at_seq rfl fun K10 hK10 => ?_
        (conv => arg 4; whnf)
        refine fw_region_lit rfl ?_
        simp [go_sem, opsF, opF, upF, Region.wanted, Fr.ev, Fr.put, thenE, inBlockE, Oper.semAt, yieldF, h0, h1, h5, h7, h8, h17, h22]
        refine on_kf hK10 [(0, .int .i64 time), (1, .int .i64 at_), (5, .pointer (some ⟨bt, 0, none⟩)), (6, .int .i64 17), (7, .int .i64 bad), (8, .int .i64 at_), (17, .bool false), (22, .bool true)] (by simp [h0, h1, h5, h7, h8, h17, h22]) hds ?_
        clear hK10 h0 h1 h5 h7 h8 h17 h22 hds; intro s hs hds
        obtain ⟨h0, h1, h5, h6, h7, h8, h17, h22⟩ := facts8 hs; clear hs
        refine at_ret rfl ?_
        simp only [inBlockE, thenE]
        refine ret_one rfl hds ⟨?_, New.trans (New.trans (New.trans hA hw2) hw3) hw4⟩
        rw [h6, if_pos hz, if_neg h1', if_pos h2']
      · rw [decide_eq_false h2'] at h22
        refine at_false 22 rfl h22 ?_
        refine at_skip rfl ?_
        simp only [inBlockE, thenE]
        refine on_kf hK5 [(0, .int .i64 time), (1, .int .i64 at_), (5, .pointer (some ⟨bt, 0, none⟩)), (7, .int .i64 bad), (8, .int .i64 at_)] (by simp [h0, h1, h5, h7, h8, h17, h22]) hds ?_
        clear hK5 h0 h1 h5 h7 h8 h17 h22 hds; intro s hs hds
        obtain ⟨h0, h1, h5, h7, h8⟩ := facts5 hs; clear hs
        refine at_seq rfl fun K11 hK11 => ?_
        (conv => arg 4; whnf)
        refine fw_region_lit rfl ?_
        simp [go_sem, opsF, opF, upF, Region.wanted, Fr.ev, Fr.put, thenE, inBlockE, Oper.semAt, yieldF, h0, h1, h5, h7, h8]
        refine on_kf hK11 [(0, .int .i64 time), (1, .int .i64 at_), (5, .pointer (some ⟨bt, 0, none⟩)), (6, .int .i64 0), (7, .int .i64 bad), (8, .int .i64 at_)] (by simp [h0, h1, h5, h7, h8]) hds ?_
        clear hK11 h0 h1 h5 h7 h8 hds; intro s hs hds
        obtain ⟨h0, h1, h5, h6, h7, h8⟩ := facts6 hs; clear hs
        refine at_ret rfl ?_
        refine ret_one rfl hds ⟨?_, New.trans (New.trans (New.trans hA hw2) hw3) hw4⟩
        rw [h6, if_pos hz, if_neg h1', if_neg h2']
  · have hz' : (bad != 0) = true := by simp [hz]
    (conv => arg 4; whnf)
    refine fw_region_lit rfl ?_
    simp [go_sem, opsF, opF, upF, Region.wanted, Fr.ev, Fr.put, thenE, inBlockE, Oper.semAt, yieldF, h0, h1, h5, h7, hz']
    refine on_kf hK4 [(0, .int .i64 time), (1, .int .i64 at_), (5, .pointer (some ⟨bt, 0, none⟩)), (7, .int .i64 bad), (14, .bool true)] (by simp [h0, h1, h5, h7]) hds ?_
    clear hK4 h0 h1 h5 h7 hds; intro s hs hds
    obtain ⟨h0, h1, h5, h7, h14⟩ := facts5 hs; clear hs
    refine at_true 14 rfl h14 ?_
    refine at_seq rfl fun K12 hK12 => ?_
    (conv => arg 4; whnf)
    refine fw_region_lit rfl ?_
    simp [go_sem, opsF, opF, upF, Region.wanted, Fr.ev, Fr.put, thenE, inBlockE, Oper.semAt, yieldF, h0, h1, h5, h7, h14]
    refine on_kf hK12 [(0, .int .i64 time), (1, .int .i64 at_), (5, .pointer (some ⟨bt, 0, none⟩)), (6, .int .i64 bad), (7, .int .i64 bad), (14, .bool true)] (by simp [h0, h1, h5, h7, h14]) hds ?_
    clear hK12 h0 h1 h5 h7 h14 hds; intro s hs hds
    obtain ⟨h0, h1, h5, h6, h7, h14⟩ := facts6 hs; clear hs
    refine at_ret rfl ?_
    simp only [inBlockE, thenE]
    refine ret_one rfl hds ⟨?_, New.trans hA hw2⟩
    rw [h6, if_neg hz]

noncomputable def body12 : Code := Try.f12.body.getD .skip
theorem later_any (at_ n : Int) (w : World) (ha : 0 ≤ at_) (hn : 0 ≤ n) (hs : at_ + n ≤ 1099511627776) :
    CallsV Try.prog 12 #[.int .i64 at_, .int .i64 n] w fun v w' => v = .tuple #[.int .i64 (at_ + n), .int .i64 0] ∧ New w w' := by
  refine calls_at body12 Try.func12 rfl 19 rfl (by simp) fun s hs1 hds => ?_
  have h0 := hs1 0 _ rfl
  have h1 := hs1 1 _ rfl
  clear hs1
  refine at_seq rfl fun K13 hK13 => ?_
  (conv => arg 4; whnf)
  refine fw_region_lit rfl ?_
  simp [go_sem, opsF, opF, upF, Region.wanted, Fr.ev, Fr.put, thenE, inBlockE, Oper.semAt, yieldF, h0, h1]
  refine on_kf hK13 [(0, .int .i64 at_), (1, .int .i64 n)] (by simp [h0, h1]) hds ?_
  clear hK13 h0 h1 hds; intro s hs hds
  obtain ⟨h0, h1⟩ := facts2 hs; clear hs
  refine at_seq rfl fun K14 hK14 => ?_
  refine at_seq rfl fun K15 hK15 => ?_
  (conv => arg 4; whnf)
  refine fw_region_lit rfl ?_
  simp [go_sem, opsF, opF, upF, Region.wanted, Fr.ev, Fr.put, thenE, inBlockE, Oper.semAt, yieldF, h0, h1]
  refine (is_any at_ w ⟨ha, by omega⟩).on ?_
  rintro _ w1 ⟨rfl, hw1⟩
  have d1 : ¬ n < 0 := by omega
  simp [go_sem, opsF, opF, upF, Region.wanted, Fr.ev, Fr.put, thenE, inBlockE, Oper.semAt, yieldF, h0, h1, d1]
  refine on_kf hK15 [(0, .int .i64 at_), (1, .int .i64 n), (12, .bool false)] (by simp [h0, h1]) hds ?_
  clear hK15 h0 h1 hds; intro s hs hds
  obtain ⟨h0, h1, h12⟩ := facts3 hs; clear hs
  refine at_false 12 rfl h12 ?_
  refine at_skip rfl ?_
  simp only [inBlockE, thenE]
  refine on_kf hK14 [(0, .int .i64 at_), (1, .int .i64 n)] (by simp [h0, h1, h12]) hds ?_
  clear hK14 h0 h1 h12 hds; intro s hs hds
  obtain ⟨h0, h1⟩ := facts2 hs; clear hs
  have d2 : IntKind.i64.wrap (1099511627776 - at_) = 1099511627776 - at_ := IntWalk.i64_in _ (by omega)
  have d3 : ¬ 1099511627776 - at_ < n := by omega
  have d4 : IntKind.i64.wrap (at_ + n) = at_ + n := IntWalk.i64_in _ (by omega)
  refine at_seq rfl fun K16 hK16 => ?_
  (conv => arg 4; whnf)
  refine fw_region_lit rfl ?_
  simp [go_sem, opsF, opF, upF, Region.wanted, Fr.ev, Fr.put, thenE, inBlockE, Oper.semAt, yieldF, h0, h1, d2, d3, d4]
  refine on_kf hK16 [(0, .int .i64 at_), (1, .int .i64 n), (4, .int .i64 (at_ + n)), (5, .int .i64 0)] (by simp [h0, h1]) hds ?_
  clear hK16 h0 h1 hds; intro s hs hds
  obtain ⟨h0, h1, h4, h5⟩ := facts4 hs; clear hs
  refine at_ret rfl (ret_two rfl hds ⟨?_, hw1⟩)
  rw [h4, h5]

noncomputable def body18 : Code := Try.f18.body.getD .skip
theorem passed_any (x y : Int) (w : World) : CallsV Try.prog 18 #[.int .i64 x, .int .i64 y] w fun v w' => v = .bool (decide (x ≤ y)) ∧ w = w' := by
  refine calls_at body18 Try.func18 rfl 8 rfl (by simp) fun s hs hds => ?_
  have h0 := hs 0 _ rfl
  have h1 := hs 1 _ rfl
  clear hs
  refine at_seq rfl fun K17 hK17 => ?_
  (conv => arg 4; whnf)
  refine fw_region_lit rfl ?_
  simp [go_sem, opsF, opF, upF, Region.wanted, Fr.ev, Fr.put, thenE, inBlockE, Oper.semAt, yieldF, h0, h1]
  refine on_kf hK17 [(0, .int .i64 x), (1, .int .i64 y)] (by simp [h0, h1]) hds ?_
  clear hK17 h0 h1 hds; intro s hs hds
  obtain ⟨h0, h1⟩ := facts2 hs; clear hs
  refine at_seq rfl fun K18 hK18 => ?_
  (conv => arg 4; whnf)
  refine fw_region_lit rfl ?_
  simp [go_sem, opsF, opF, upF, Region.wanted, Fr.ev, Fr.put, thenE, inBlockE, Oper.semAt, yieldF, h0, h1]
  refine on_kf hK18 [(0, .int .i64 x), (1, .int .i64 y), (4, .bool (decide (x ≤ y)))] (by simp [h0, h1]) hds ?_
  clear hK18 h0 h1 hds; intro s hs hds
  obtain ⟨h0, h1, h4⟩ := facts3 hs; clear hs
  exact at_ret rfl (ret_one rfl hds ⟨h4, rfl⟩)

noncomputable def body8 : Code := Try.f8.body.getD .skip
theorem aged_any (time now P D m d : Int) (w : World) (hP : 0 ≤ P ∧ P ≤ 1000) (hD : -1 ≤ D ∧ D ≤ 1000) (ht : 0 ≤ time ∧ time ≤ 1000) (hn : 0 ≤ now ∧ now ≤ 1000) :
    CallsV Try.prog 8 #[.int .i64 time, .int .i64 now, tv P D m d] w fun v w' => v = .tuple #[.bool (decide (time + P ≤ now)), .bool (decide (0 ≤ D) && decide (now + max D 1 ≤ time))] ∧ New w w' := by
  refine calls_at body8 Try.func8 rfl 35 rfl (by simp) fun s hs hds => ?_
  have h0 := hs 0 _ rfl
  have h1 := hs 1 _ rfl
  have h2 := hs 2 _ rfl
  clear hs
  unfold tv at h2
  have hb := Blk.new w #[.int .i64 P, .int .i64 D, .int .i64 m, .int .i64 d] 24
  have hA := Frm.alloc (fun _ => False) w (.cells #[.int .i64 P, .int .i64 D, .int .i64 m, .int .i64 d] 24)
  refine at_seq rfl fun K19 hK19 => ?_
  (conv => arg 4; whnf)
  refine fw_region_lit rfl ?_
  simp [go_sem, opsF, opF, upF, Region.wanted, Fr.ev, Fr.put, thenE, inBlockE, Oper.semAt, yieldF, h0, h1, h2]
  refine on_kf hK19 [(0, .int .i64 time), (1, .int .i64 now), (5, .pointer (some ⟨w.heap.size, 0, none⟩))] (by simp [h0, h1, h2]) hds ?_
  clear hK19 h0 h1 h2 hds; intro s hs hds
  obtain ⟨h0, h1, h5⟩ := facts3 hs; clear hs
  generalize w.alloc (.cells #[.int .i64 P, .int .i64 D, .int .i64 m, .int .i64 d] 24) = w1 at *
  generalize w.heap.size = bt at *
  have x0 := hb.cell 0
  have x1 := hb.cell 1
  have x2 := hb.cell 2
  have x3 := hb.cell 3
  simp only [List.getElem?_toArray, List.getElem?_cons_zero, List.getElem?_cons_succ] at x0 x1 x2 x3
  have d1 : IntKind.i64.wrap (time + P) = time + P := IntWalk.i64_in _ (by omega)
  have d2 : IntKind.i64.wrap (now + D) = now + D := IntWalk.i64_in _ (by omega)
  have hcase : D = -1 ∨ D = 0 ∨ 0 < D := by omega
  refine at_seq rfl fun K20 hK20 => ?_
  rcases hcase with hc | hc | hc
  · have c1 : ¬ 0 < D := by omega
    have c2 : (D == 0) = false := by simp [hc]
    (conv => arg 4; whnf)
    refine fw_region_lit rfl ?_
    simp [go_sem, opsF, opF, upF, Region.wanted, Fr.ev, Fr.put, thenE, inBlockE, Oper.semAt, yieldF, h0, h1, h5, x0, x1, d1, c1, c2]
    refine on_kf hK20 [(0, .int .i64 time), (1, .int .i64 now), (5, .pointer (some ⟨bt, 0, none⟩)), (6, .bool (decide (time + P ≤ now))), (7, .bool false)] (by simp [h0, h1, h5]) hds ?_
    clear hK20 h0 h1 h5 hds; intro s hs hds
    obtain ⟨h0, h1, h5, h6, h7⟩ := facts5 hs; clear hs
    refine at_ret rfl (ret_two rfl hds ⟨?_, hA⟩)
    rw [h6, h7]
    simp [hc]
  · have c1 : ¬ 0 < D := by omega
    have c2 : (D == 0) = true := by simp [hc]
    (conv => arg 4; whnf)
    refine fw_region_lit rfl ?_
    simp [go_sem, opsF, opF, upF, Region.wanted, Fr.ev, Fr.put, thenE, inBlockE, Oper.semAt, yieldF, h0, h1, h5, x0, x1, d1, c1, c2]
    refine on_kf hK20 [(0, .int .i64 time), (1, .int .i64 now), (5, .pointer (some ⟨bt, 0, none⟩)), (6, .bool (decide (time + P ≤ now))), (7, .bool (decide (now < time)))] (by simp [h0, h1, h5]) hds ?_
    clear hK20 h0 h1 h5 hds; intro s hs hds
    obtain ⟨h0, h1, h5, h6, h7⟩ := facts5 hs; clear hs
    refine at_ret rfl (ret_two rfl hds ⟨?_, hA⟩)
    rw [h6, h7]
    have : (now < time) = (now + max D 1 ≤ time) := by apply propext; omega
    simp [hc, this]
  · have c0 : ¬ D < 0 := by omega
    have c2 : (D == 0) = false := by simp; omega
    by_cases c3 : now + D ≤ time
    · (conv => arg 4; whnf)
      refine fw_region_lit rfl ?_
      simp [go_sem, opsF, opF, upF, Region.wanted, Fr.ev, Fr.put, thenE, inBlockE, Oper.semAt, yieldF, h0, h1, h5, x0, x1, d1, hc, c2, d2, c3]
      refine on_kf hK20 [(0, .int .i64 time), (1, .int .i64 now), (5, .pointer (some ⟨bt, 0, none⟩)), (6, .bool (decide (time + P ≤ now))), (7, .bool true)] (by simp [h0, h1, h5]) hds ?_
      clear hK20 h0 h1 h5 hds; intro s hs hds
      obtain ⟨h0, h1, h5, h6, h7⟩ := facts5 hs; clear hs
      refine at_ret rfl (ret_two rfl hds ⟨?_, hA⟩)
      rw [h6, h7]
      have h1' : 0 ≤ D := by omega
      have h2' : now + max D 1 ≤ time := by omega
      simp [h1', h2']
    · (conv => arg 4; whnf)
      refine fw_region_lit rfl ?_
      simp [go_sem, opsF, opF, upF, Region.wanted, Fr.ev, Fr.put, thenE, inBlockE, Oper.semAt, yieldF, h0, h1, h5, x0, x1, d1, hc, c2, d2, c3]
      refine on_kf hK20 [(0, .int .i64 time), (1, .int .i64 now), (5, .pointer (some ⟨bt, 0, none⟩)), (6, .bool (decide (time + P ≤ now))), (7, .bool false)] (by simp [h0, h1, h5]) hds ?_
      clear hK20 h0 h1 h5 hds; intro s hs hds
      obtain ⟨h0, h1, h5, h6, h7⟩ := facts5 hs; clear hs
      refine at_ret rfl (ret_two rfl hds ⟨?_, hA⟩)
      rw [h6, h7]
      have h2' : ¬ now + max D 1 ≤ time := by omega
      simp [h2']
end Go.Proofs.Ytiejaopidkghdab
