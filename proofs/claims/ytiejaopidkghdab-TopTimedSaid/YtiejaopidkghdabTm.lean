/- A round of the law's first loop: what is asked of a clock. -/
import Derived.Test.YtiejaopidkghdabTk
namespace Go.Proofs.Ytiejaopidkghdab
set_option linter.unusedSimpArgs false
set_option linter.unusedVariables false
open Go.RowKit Go.Lf

set_option maxHeartbeats 2000000 in
theorem round_c (s : Fr) (w : World) (K : Fr → World → Prop) (Q : Exit → Fr → World → Prop) (bt : Nat) (x y bad e1 e2 e3 p6 p7 p8 fr to now look : Int) (o a : Bool)
    (hs : FD bt x y bad e1 e2 e3 p6 p7 p8 fr to now s) (h29 : s.t 29 = .bool o) (h32 : s.t 32 = .bool a) (h33 : s.t 33 = .bool (decide (bad = 0) && o)) (h34 : s.t 34 = .int .i64 bad) (h35 : s.t 35 = .bool (decide (bad = 0) && a)) (h36 : s.t 36 = .int .i64 bad)
    (h37 : s.t 37 = .int .i64 look) (h40 : s.t 40 = .int .i64 look) (hx : 0 ≤ x ∧ x ≤ 1000) (hn : 0 ≤ now ∧ now ≤ 1000)
    (hK : ∀ s w', FD bt x y bad e1 e2 e3 p6 p7 p8 fr to now s → New w w' → K s w') : FW Try.prog 372 none (sub body3 [1,1,1,1,1,1,1,1,1,1,0,0,1,1,0,0,1,0,1,1,1,1,1,1]) (inBlockE 1 (thenE K Q)) s w := by
  refine at_seq rfl fun K1 hK1 => ?_
  refine seg27 s w _ _ bt x y bad e1 e2 e3 p6 p7 p8 fr to now look o a hs h29 h32 h33 h34 h35 h36 h37 h40 ?_
  clear hs h29 h32 h33 h34 h35 h36 h37 h40 s
  intro s hs
  refine hK1 _ _ ?_
  clear hK1
  obtain ⟨⟨h6, h7, h8, h19, h20, h21, h22, h23, h24, h25, hds⟩, h26, h27, h28, h87⟩ := hs
  refine at_seq rfl fun K2 hK2 => ?_
  (conv => arg 4; whnf)
  refine fw_region_lit rfl ?_
  simp [go_sem, opsF, opF, upF, Region.wanted, Fr.ev, Fr.put, thenE, inBlockE, Oper.semAt, yieldF, h6, h7, h8, h19, h20, h21, h22, h23, h24, h25, h26, h27, h28, h87]
  refine (later_any now x w hn.1 hx.1 (by omega)).on ?_
  rintro _ w1 ⟨rfl, hw1⟩
  simp [go_sem, opsF, opF, upF, Region.wanted, Fr.ev, Fr.put, thenE, inBlockE, Oper.semAt, yieldF, h6, h7, h8, h19, h20, h21, h22, h23, h24, h25, h26, h27, h28, h87]
  refine on_kf hK2 [(6, .int .u8 p6), (7, .int .u8 p7), (8, .int .u8 p8), (19, .pointer (some ⟨bt, 0, none⟩)), (20, .int .i64 x), (21, .int .i64 y), (22, .int .i64 bad), (23, .int .i64 e1), (24, .int .i64 e2), (25, .int .i64 e3), (26, .int .i64 fr), (27, .int .i64 to), (28, .int .i64 now), (41, .int .i64 (now + x)), (42, .int .i64 0), (87, .int .i64 now)] (by simp [h6, h7, h8, h19, h20, h21, h22, h23, h24, h25, h26, h27, h28, h87]) hds ?_
  clear hK2 h6 h7 h8 h19 h20 h21 h22 h23 h24 h25 h26 h27 h28 h87 hds; intro s hs hds
  obtain ⟨h6, h7, h8, h19, h20, h21, h22, h23, h24, h25, h26, h27, h28, h41, h42, h87⟩ := facts16 hs; clear hs
  have d1 : IntKind.i64.wrap (now + x) = now + x := IntWalk.i64_in _ (by omega)
  refine at_seq rfl fun K3 hK3 => ?_
  (conv => arg 4; whnf)
  refine fw_region_lit rfl ?_
  simp [go_sem, opsF, opF, upF, Region.wanted, Fr.ev, Fr.put, thenE, inBlockE, Oper.semAt, yieldF, h6, h7, h8, h19, h20, h21, h22, h23, h24, h25, h26, h27, h28, h41, h42, h87, d1]
  refine on_kf hK3 [(6, .int .u8 p6), (7, .int .u8 p7), (8, .int .u8 p8), (19, .pointer (some ⟨bt, 0, none⟩)), (20, .int .i64 x), (21, .int .i64 y), (22, .int .i64 bad), (23, .int .i64 e1), (24, .int .i64 e2), (25, .int .i64 e3), (26, .int .i64 fr), (27, .int .i64 to), (28, .int .i64 now), (41, .int .i64 (now + x)), (42, .int .i64 0), (87, .int .i64 now), (198, .bool false)] (by simp [h6, h7, h8, h19, h20, h21, h22, h23, h24, h25, h26, h27, h28, h41, h42, h87]) hds ?_
  clear hK3 h6 h7 h8 h19 h20 h21 h22 h23 h24 h25 h26 h27 h28 h41 h42 h87 hds; intro s hs hds
  obtain ⟨h6, h7, h8, h19, h20, h21, h22, h23, h24, h25, h26, h27, h28, h41, h42, h87, h198⟩ := facts17 hs; clear hs
  refine at_false 198 rfl h198 ?_
  refine at_skip rfl ?_
  exact hK s w1 ⟨⟨h6, h7, h8, h19, h20, h21, h22, h23, h24, h25, hds⟩, h26, h27, h28, h87⟩ hw1

set_option maxHeartbeats 4000000 in
theorem round_b (s : Fr) (w : World) (K : Fr → World → Prop) (Q : Exit → Fr → World → Prop) (bt : Nat) (x y P D m d e1 e2 e3 p6 p7 p8 fr to now : Int)
    (hs : FD bt x y (badOf P D m d) e1 e2 e3 p6 p7 p8 fr to now s) (h29 : s.t 29 = .bool (decide (x + P ≤ now))) (h32 : s.t 32 = .bool (decide (0 ≤ D) && decide (now + max D 1 ≤ y))) (hb : Blk w bt #[.int .i64 P, .int .i64 D, .int .i64 m, .int .i64 d] 24)
    (hP : 0 ≤ P ∧ P ≤ 1000) (hD : -1 ≤ D ∧ D ≤ 1000) (hm : 0 ≤ m ∧ m ≤ 100) (hd : 0 ≤ d ∧ d ≤ 100) (hx : 0 ≤ x ∧ x ≤ 1000) (hy : 0 ≤ y ∧ y ≤ 1000) (hn : 0 ≤ now ∧ now ≤ 1000)
    (hK : ∀ s w', FD bt x y (badOf P D m d) e1 e2 e3 p6 p7 p8 fr to now s → New w w' → K s w') : FW Try.prog 372 none (sub body3 [1,1,1,1,0,0,1,1,0,0,1,0,1,1,1,1,1,1]) (inBlockE 1 (thenE K Q)) s w := by
  obtain ⟨⟨h6, h7, h8, h19, h20, h21, h22, h23, h24, h25, hds⟩, h26, h27, h28, h87⟩ := hs
  have hdz : badOf P D m d = 0 → 0 ≤ D := by
    intro h
    unfold badOf at h
    split at h
    · omega
    · omega
  have hbb : (decide (badOf P D m d = 0) && (decide (0 ≤ D) && decide (now + max D 1 ≤ y))) = (decide (badOf P D m d = 0) && decide (now + max D 1 ≤ y)) := by
    by_cases hz : badOf P D m d = 0
    · simp [hz, hdz hz]
    · simp [hz]
  have x0 := hb.cell 0
  have x1 := hb.cell 1
  have x2 := hb.cell 2
  have x3 := hb.cell 3
  simp only [List.getElem?_toArray, List.getElem?_cons_zero, List.getElem?_cons_succ] at x0 x1 x2 x3
  refine at_seq rfl fun K4 hK4 => ?_
  (conv => arg 4; whnf)
  refine fw_region_lit rfl ?_
  simp [go_sem, opsF, opF, upF, Region.wanted, Fr.ev, Fr.put, thenE, inBlockE, Oper.semAt, yieldF, h6, h7, h8, h19, h20, h21, h22, h23, h24, h25, h26, h27, h28, h29, h32, h87, x0, x1, x2, x3]
  refine (expired_any x now P D m d w hP hD hm hd ⟨hx.1, by omega⟩ ⟨hn.1, by omega⟩).on ?_
  rintro _ w1 ⟨rfl, hw1⟩
  simp [go_sem, opsF, opF, upF, Region.wanted, Fr.ev, Fr.put, thenE, inBlockE, Oper.semAt, yieldF, h6, h7, h8, h19, h20, h21, h22, h23, h24, h25, h26, h27, h28, h29, h32, h87]
  refine on_kf hK4 [(6, .int .u8 p6), (7, .int .u8 p7), (8, .int .u8 p8), (19, .pointer (some ⟨bt, 0, none⟩)), (20, .int .i64 x), (21, .int .i64 y), (22, .int .i64 (badOf P D m d)), (23, .int .i64 e1), (24, .int .i64 e2), (25, .int .i64 e3), (26, .int .i64 fr), (27, .int .i64 to), (28, .int .i64 now), (29, .bool (decide (x + P ≤ now))), (32, .bool (decide (0 ≤ D) && decide (now + max D 1 ≤ y))), (33, .bool (decide (badOf P D m d = 0) && decide (x + P ≤ now))), (34, .int .i64 (badOf P D m d)), (87, .int .i64 now)] (by simp [h6, h7, h8, h19, h20, h21, h22, h23, h24, h25, h26, h27, h28, h29, h32, h87]) hds ?_
  clear hK4 h6 h7 h8 h19 h20 h21 h22 h23 h24 h25 h26 h27 h28 h29 h32 h87 hds; intro s hs hds
  obtain ⟨h6, h7, h8, h19, h20, h21, h22, h23, h24, h25, h26, h27, h28, h29, h32, h33, h34, h87⟩ := facts18 hs; clear hs
  have hb1 := hb.frm hw1 (fun h => h)
  clear x0 x1 x2 x3
  have x0 := hb1.cell 0
  have x1 := hb1.cell 1
  have x2 := hb1.cell 2
  have x3 := hb1.cell 3
  simp only [List.getElem?_toArray, List.getElem?_cons_zero, List.getElem?_cons_succ] at x0 x1 x2 x3
  refine at_seq rfl fun K5 hK5 => ?_
  (conv => arg 4; whnf)
  refine fw_region_lit rfl ?_
  simp [go_sem, opsF, opF, upF, Region.wanted, Fr.ev, Fr.put, thenE, inBlockE, Oper.semAt, yieldF, h6, h7, h8, h19, h20, h21, h22, h23, h24, h25, h26, h27, h28, h29, h32, h33, h34, h87, x0, x1, x2, x3]
  refine (isAhead_any y now P D m d w1 hP hD hm hd ⟨hy.1, by omega⟩ ⟨hn.1, by omega⟩).on ?_
  rintro _ w2 ⟨rfl, hw2⟩
  simp [go_sem, opsF, opF, upF, Region.wanted, Fr.ev, Fr.put, thenE, inBlockE, Oper.semAt, yieldF, h6, h7, h8, h19, h20, h21, h22, h23, h24, h25, h26, h27, h28, h29, h32, h33, h34, h87]
  refine on_kf hK5 [(6, .int .u8 p6), (7, .int .u8 p7), (8, .int .u8 p8), (19, .pointer (some ⟨bt, 0, none⟩)), (20, .int .i64 x), (21, .int .i64 y), (22, .int .i64 (badOf P D m d)), (23, .int .i64 e1), (24, .int .i64 e2), (25, .int .i64 e3), (26, .int .i64 fr), (27, .int .i64 to), (28, .int .i64 now), (29, .bool (decide (x + P ≤ now))), (32, .bool (decide (0 ≤ D) && decide (now + max D 1 ≤ y))), (33, .bool (decide (badOf P D m d = 0) && decide (x + P ≤ now))), (34, .int .i64 (badOf P D m d)), (35, .bool (decide (badOf P D m d = 0) && decide (now + max D 1 ≤ y))), (36, .int .i64 (badOf P D m d)), (87, .int .i64 now)] (by simp [h6, h7, h8, h19, h20, h21, h22, h23, h24, h25, h26, h27, h28, h29, h32, h33, h34, h87]) hds ?_
  clear hK5 h6 h7 h8 h19 h20 h21 h22 h23 h24 h25 h26 h27 h28 h29 h32 h33 h34 h87 hds; intro s hs hds
  obtain ⟨h6, h7, h8, h19, h20, h21, h22, h23, h24, h25, h26, h27, h28, h29, h32, h33, h34, h35, h36, h87⟩ := facts20 hs; clear hs
  have hb2 := hb1.frm hw2 (fun h => h)
  clear x0 x1 x2 x3
  have x0 := hb2.cell 0
  have x1 := hb2.cell 1
  have x2 := hb2.cell 2
  have x3 := hb2.cell 3
  simp only [List.getElem?_toArray, List.getElem?_cons_zero, List.getElem?_cons_succ] at x0 x1 x2 x3
  refine at_seq rfl fun K6 hK6 => ?_
  (conv => arg 4; whnf)
  refine fw_region_lit rfl ?_
  simp [go_sem, opsF, opF, upF, Region.wanted, Fr.ev, Fr.put, thenE, inBlockE, Oper.semAt, yieldF, h6, h7, h8, h19, h20, h21, h22, h23, h24, h25, h26, h27, h28, h29, h32, h33, h34, h35, h36, h87, x0, x1, x2, x3]
  refine (look_any x now P D m d w2 hP hD hm hd ⟨hx.1, by omega⟩ ⟨hn.1, by omega⟩).on ?_
  rintro _ w3 ⟨rfl, hw3⟩
  skip
  refine on_kf hK6 [(6, .int .u8 p6), (7, .int .u8 p7), (8, .int .u8 p8), (19, .pointer (some ⟨bt, 0, none⟩)), (20, .int .i64 x), (21, .int .i64 y), (22, .int .i64 (badOf P D m d)), (23, .int .i64 e1), (24, .int .i64 e2), (25, .int .i64 e3), (26, .int .i64 fr), (27, .int .i64 to), (28, .int .i64 now), (29, .bool (decide (x + P ≤ now))), (32, .bool (decide (0 ≤ D) && decide (now + max D 1 ≤ y))), (33, .bool (decide (badOf P D m d = 0) && decide (x + P ≤ now))), (34, .int .i64 (badOf P D m d)), (35, .bool (decide (badOf P D m d = 0) && decide (now + max D 1 ≤ y))), (36, .int .i64 (badOf P D m d)), (37, .int .i64 (lookOf x now P D m d)), (87, .int .i64 now)] (by simp [h6, h7, h8, h19, h20, h21, h22, h23, h24, h25, h26, h27, h28, h29, h32, h33, h34, h35, h36, h87]) hds ?_
  clear hK6 h6 h7 h8 h19 h20 h21 h22 h23 h24 h25 h26 h27 h28 h29 h32 h33 h34 h35 h36 h87 hds; intro s hs hds
  obtain ⟨h6, h7, h8, h19, h20, h21, h22, h23, h24, h25, h26, h27, h28, h29, h32, h33, h34, h35, h36, h37, h87⟩ := facts21 hs; clear hs
  have hb3 := hb2.frm hw3 (fun h => h)
  clear x0 x1 x2 x3
  have x0 := hb3.cell 0
  have x1 := hb3.cell 1
  have x2 := hb3.cell 2
  have x3 := hb3.cell 3
  simp only [List.getElem?_toArray, List.getElem?_cons_zero, List.getElem?_cons_succ] at x0 x1 x2 x3
  refine at_seq rfl fun K7 hK7 => ?_
  (conv => arg 4; whnf)
  refine fw_region_lit rfl ?_
  simp [go_sem, opsF, opF, upF, Region.wanted, Fr.ev, Fr.put, thenE, inBlockE, Oper.semAt, yieldF, h6, h7, h8, h19, h20, h21, h22, h23, h24, h25, h26, h27, h28, h29, h32, h33, h34, h35, h36, h37, h87, x0, x1, x2, x3]
  refine (aged_any x now P D m d w3 hP hD hx hn).on ?_
  rintro _ w4 ⟨rfl, hw4⟩
  simp [go_sem, opsF, opF, upF, Region.wanted, Fr.ev, Fr.put, thenE, inBlockE, Oper.semAt, yieldF, h6, h7, h8, h19, h20, h21, h22, h23, h24, h25, h26, h27, h28, h29, h32, h33, h34, h35, h36, h37, h87]
  refine on_kf hK7 [(6, .int .u8 p6), (7, .int .u8 p7), (8, .int .u8 p8), (19, .pointer (some ⟨bt, 0, none⟩)), (20, .int .i64 x), (21, .int .i64 y), (22, .int .i64 (badOf P D m d)), (23, .int .i64 e1), (24, .int .i64 e2), (25, .int .i64 e3), (26, .int .i64 fr), (27, .int .i64 to), (28, .int .i64 now), (29, .bool (decide (x + P ≤ now))), (32, .bool (decide (0 ≤ D) && decide (now + max D 1 ≤ y))), (33, .bool (decide (badOf P D m d = 0) && decide (x + P ≤ now))), (34, .int .i64 (badOf P D m d)), (35, .bool (decide (badOf P D m d = 0) && decide (now + max D 1 ≤ y))), (36, .int .i64 (badOf P D m d)), (37, .int .i64 (lookOf x now P D m d)), (38, .bool (decide (x + P ≤ now))), (39, .bool (decide (0 ≤ D) && decide (now + max D 1 ≤ x))), (87, .int .i64 now)] (by simp [h6, h7, h8, h19, h20, h21, h22, h23, h24, h25, h26, h27, h28, h29, h32, h33, h34, h35, h36, h37, h87]) hds ?_
  clear hK7 h6 h7 h8 h19 h20 h21 h22 h23 h24 h25 h26 h27 h28 h29 h32 h33 h34 h35 h36 h37 h87 hds; intro s hs hds
  obtain ⟨h6, h7, h8, h19, h20, h21, h22, h23, h24, h25, h26, h27, h28, h29, h32, h33, h34, h35, h36, h37, h38, h39, h87⟩ := facts23 hs; clear hs
  have hb4 := hb3.frm hw4 (fun h => h)
  clear x0 x1 x2 x3
  have hNW := New.trans (New.trans (New.trans hw1 hw2) hw3) hw4
  refine at_seq rfl fun K8 hK8 => ?_
  (conv => arg 4; whnf)
  refine fw_region_lit rfl ?_
  simp [go_sem, opsF, opF, upF, Region.wanted, Fr.ev, Fr.put, thenE, inBlockE, Oper.semAt, yieldF, h6, h7, h8, h19, h20, h21, h22, h23, h24, h25, h26, h27, h28, h29, h32, h33, h34, h35, h36, h37, h38, h39, h87]
  refine on_kf hK8 [(6, .int .u8 p6), (7, .int .u8 p7), (8, .int .u8 p8), (19, .pointer (some ⟨bt, 0, none⟩)), (20, .int .i64 x), (21, .int .i64 y), (22, .int .i64 (badOf P D m d)), (23, .int .i64 e1), (24, .int .i64 e2), (25, .int .i64 e3), (26, .int .i64 fr), (27, .int .i64 to), (28, .int .i64 now), (29, .bool (decide (x + P ≤ now))), (32, .bool (decide (0 ≤ D) && decide (now + max D 1 ≤ y))), (33, .bool (decide (badOf P D m d = 0) && decide (x + P ≤ now))), (34, .int .i64 (badOf P D m d)), (35, .bool (decide (badOf P D m d = 0) && decide (now + max D 1 ≤ y))), (36, .int .i64 (badOf P D m d)), (37, .int .i64 (lookOf x now P D m d)), (38, .bool (decide (x + P ≤ now))), (39, .bool (decide (0 ≤ D) && decide (now + max D 1 ≤ x))), (40, .int .i64 0), (87, .int .i64 now)] (by simp [h6, h7, h8, h19, h20, h21, h22, h23, h24, h25, h26, h27, h28, h29, h32, h33, h34, h35, h36, h37, h38, h39, h87]) hds ?_
  clear hK8 h6 h7 h8 h19 h20 h21 h22 h23 h24 h25 h26 h27 h28 h29 h32 h33 h34 h35 h36 h37 h38 h39 h87 hds; intro s hs hds
  obtain ⟨h6, h7, h8, h19, h20, h21, h22, h23, h24, h25, h26, h27, h28, h29, h32, h33, h34, h35, h36, h37, h38, h39, h40, h87⟩ := facts24 hs; clear hs
  generalize hL : lookOf x now P D m d = look at *
  unfold lookOf at hL
  generalize hB : badOf P D m d = bad at *
  generalize hO : decide (x + P ≤ now) = o at *
  generalize hA1 : decide (now + max D 1 ≤ x) = a1 at *
  refine at_seq rfl fun K9 hK9 => ?_
  refine at_block 2 rfl ?_
  refine at_seq rfl fun K10 hK10 => ?_
  have done : ∀ s, FD bt x y bad e1 e2 e3 p6 p7 p8 fr to now s → s.t 29 = .bool o → s.t 32 = .bool (decide (0 ≤ D) && decide (now + max D 1 ≤ y)) → s.t 33 = .bool (decide (bad = 0) && o) → s.t 34 = .int .i64 bad → s.t 35 = .bool (decide (bad = 0) && decide (now + max D 1 ≤ y)) → s.t 36 = .int .i64 bad → s.t 37 = .int .i64 look → s.t 40 = .int .i64 look →
      FW Try.prog 372 none (sub body3 [1,1,1,1,1,1,1,1,1,1,0,0,1,1,0,0,1,0,1,1,1,1,1,1]) (inBlockE 1 (thenE K Q)) s w4 := by
    intro s hs g29 g32 g33 g34 g35 g36 g37 g40
    rw [← hbb] at g35
    exact round_c s w4 K Q bt x y bad e1 e2 e3 p6 p7 p8 fr to now look o _ hs g29 g32 g33 g34 g35 g36 g37 g40 hx hn (fun s w' hs' hw' => hK s w' hs' (New.trans hNW hw'))
  by_cases hz : bad = 0
  · subst hz
    have hD0 : decide (0 ≤ D) = true := decide_eq_true (hdz rfl)
    rw [if_pos rfl] at hL
    rw [hD0] at h39
    simp only [Bool.true_and] at h39
    (conv => arg 4; whnf)
    refine fw_region_lit rfl ?_
    simp [go_sem, opsF, opF, upF, Region.wanted, Fr.ev, Fr.put, thenE, inBlockE, Oper.semAt, yieldF, h6, h7, h8, h19, h20, h21, h22, h23, h24, h25, h26, h27, h28, h29, h32, h33, h34, h35, h36, h37, h38, h39, h40, h87]
    refine on_kf hK10 [(6, .int .u8 p6), (7, .int .u8 p7), (8, .int .u8 p8), (19, .pointer (some ⟨bt, 0, none⟩)), (20, .int .i64 x), (21, .int .i64 y), (22, .int .i64 0), (23, .int .i64 e1), (24, .int .i64 e2), (25, .int .i64 e3), (26, .int .i64 fr), (27, .int .i64 to), (28, .int .i64 now), (29, .bool o), (32, .bool (decide (0 ≤ D) && decide (now + max D 1 ≤ y))), (33, .bool (decide ((0 : Int) = 0) && o)), (34, .int .i64 0), (35, .bool (decide ((0 : Int) = 0) && decide (now + max D 1 ≤ y))), (36, .int .i64 0), (37, .int .i64 look), (38, .bool o), (39, .bool a1), (40, .int .i64 0), (87, .int .i64 now), (139, .bool false)] (by simp [h6, h7, h8, h19, h20, h21, h22, h23, h24, h25, h26, h27, h28, h29, h32, h33, h34, h35, h36, h37, h38, h39, h40, h87]) hds ?_
    clear hK10 h6 h7 h8 h19 h20 h21 h22 h23 h24 h25 h26 h27 h28 h29 h32 h33 h34 h35 h36 h37 h38 h39 h40 h87 hds; intro s hs hds
    obtain ⟨h6, h7, h8, h19, h20, h21, h22, h23, h24, h25, h26, h27, h28, h29, h32, h33, h34, h35, h36, h37, h38, h39, h40, h87, h139⟩ := facts25 hs; clear hs
    refine at_false 139 rfl h139 ?_
    refine at_seq rfl fun K11 hK11 => ?_
    (conv => arg 4; whnf)
    refine fw_region_lit rfl ?_
    simp [go_sem, opsF, opF, upF, Region.wanted, Fr.ev, Fr.put, thenE, inBlockE, Oper.semAt, yieldF, h6, h7, h8, h19, h20, h21, h22, h23, h24, h25, h26, h27, h28, h29, h32, h33, h34, h35, h36, h37, h38, h39, h40, h87, h139]
    refine on_kf hK11 [(6, .int .u8 p6), (7, .int .u8 p7), (8, .int .u8 p8), (19, .pointer (some ⟨bt, 0, none⟩)), (20, .int .i64 x), (21, .int .i64 y), (22, .int .i64 0), (23, .int .i64 e1), (24, .int .i64 e2), (25, .int .i64 e3), (26, .int .i64 fr), (27, .int .i64 to), (28, .int .i64 now), (29, .bool o), (32, .bool (decide (0 ≤ D) && decide (now + max D 1 ≤ y))), (33, .bool (decide ((0 : Int) = 0) && o)), (34, .int .i64 0), (35, .bool (decide ((0 : Int) = 0) && decide (now + max D 1 ≤ y))), (36, .int .i64 0), (37, .int .i64 look), (38, .bool o), (39, .bool a1), (40, .int .i64 0), (87, .int .i64 now), (139, .bool false), (143, .bool o)] (by simp [h6, h7, h8, h19, h20, h21, h22, h23, h24, h25, h26, h27, h28, h29, h32, h33, h34, h35, h36, h37, h38, h39, h40, h87, h139]) hds ?_
    clear hK11 h6 h7 h8 h19 h20 h21 h22 h23 h24 h25 h26 h27 h28 h29 h32 h33 h34 h35 h36 h37 h38 h39 h40 h87 h139 hds; intro s hs hds
    obtain ⟨h6, h7, h8, h19, h20, h21, h22, h23, h24, h25, h26, h27, h28, h29, h32, h33, h34, h35, h36, h37, h38, h39, h40, h87, h139, h143⟩ := facts26 hs; clear hs
    rcases (by cases o <;> simp : o = false ∨ o = true) with ho | ho
    · have q1 : ¬ x + P ≤ now := of_decide_eq_false (hO.trans ho)
      rw [if_neg q1] at hL
      rw [ho] at h143
      refine at_false 143 rfl h143 ?_
      refine at_seq rfl fun K12 hK12 => ?_
      (conv => arg 4; whnf)
      refine fw_region_lit rfl ?_
      simp [go_sem, opsF, opF, upF, Region.wanted, Fr.ev, Fr.put, thenE, inBlockE, Oper.semAt, yieldF, h6, h7, h8, h19, h20, h21, h22, h23, h24, h25, h26, h27, h28, h29, h32, h33, h34, h35, h36, h37, h38, h39, h40, h87, h139, h143]
      refine on_kf hK12 [(6, .int .u8 p6), (7, .int .u8 p7), (8, .int .u8 p8), (19, .pointer (some ⟨bt, 0, none⟩)), (20, .int .i64 x), (21, .int .i64 y), (22, .int .i64 0), (23, .int .i64 e1), (24, .int .i64 e2), (25, .int .i64 e3), (26, .int .i64 fr), (27, .int .i64 to), (28, .int .i64 now), (29, .bool o), (32, .bool (decide (0 ≤ D) && decide (now + max D 1 ≤ y))), (33, .bool (decide ((0 : Int) = 0) && o)), (34, .int .i64 0), (35, .bool (decide ((0 : Int) = 0) && decide (now + max D 1 ≤ y))), (36, .int .i64 0), (37, .int .i64 look), (38, .bool o), (39, .bool a1), (40, .int .i64 0), (87, .int .i64 now), (139, .bool false), (143, .bool false), (145, .bool a1)] (by simp [h6, h7, h8, h19, h20, h21, h22, h23, h24, h25, h26, h27, h28, h29, h32, h33, h34, h35, h36, h37, h38, h39, h40, h87, h139, h143]) hds ?_
      clear hK12 h6 h7 h8 h19 h20 h21 h22 h23 h24 h25 h26 h27 h28 h29 h32 h33 h34 h35 h36 h37 h38 h39 h40 h87 h139 h143 hds; intro s hs hds
      obtain ⟨h6, h7, h8, h19, h20, h21, h22, h23, h24, h25, h26, h27, h28, h29, h32, h33, h34, h35, h36, h37, h38, h39, h40, h87, h139, h143, h145⟩ := facts27 hs; clear hs
      rcases (by cases a1 <;> simp : a1 = false ∨ a1 = true) with ha | ha
      · have q2 : ¬ now + max D 1 ≤ x := of_decide_eq_false (hA1.trans ha)
        rw [if_neg q2] at hL
        rw [ha] at h145
        refine at_false 145 rfl h145 ?_
        refine at_skip rfl ?_
        simp only [inBlockE, thenE]
        refine on_kf hK9 [(6, .int .u8 p6), (7, .int .u8 p7), (8, .int .u8 p8), (19, .pointer (some ⟨bt, 0, none⟩)), (20, .int .i64 x), (21, .int .i64 y), (22, .int .i64 0), (23, .int .i64 e1), (24, .int .i64 e2), (25, .int .i64 e3), (26, .int .i64 fr), (27, .int .i64 to), (28, .int .i64 now), (29, .bool o), (32, .bool (decide (0 ≤ D) && decide (now + max D 1 ≤ y))), (33, .bool (decide ((0 : Int) = 0) && o)), (34, .int .i64 0), (35, .bool (decide ((0 : Int) = 0) && decide (now + max D 1 ≤ y))), (36, .int .i64 0), (37, .int .i64 look), (38, .bool o), (39, .bool a1), (40, .int .i64 0), (87, .int .i64 now), (139, .bool false), (143, .bool false), (145, .bool false)] (by simp [h6, h7, h8, h19, h20, h21, h22, h23, h24, h25, h26, h27, h28, h29, h32, h33, h34, h35, h36, h37, h38, h39, h40, h87, h139, h143, h145]) hds ?_
        clear hK9 h6 h7 h8 h19 h20 h21 h22 h23 h24 h25 h26 h27 h28 h29 h32 h33 h34 h35 h36 h37 h38 h39 h40 h87 h139 h143 h145 hds; intro s hs hds
        obtain ⟨h6, h7, h8, h19, h20, h21, h22, h23, h24, h25, h26, h27, h28, h29, h32, h33, h34, h35, h36, h37, h38, h39, h40, h87, h139, h143, h145⟩ := facts27 hs; clear hs
        subst hL
        exact done s ⟨⟨h6, h7, h8, h19, h20, h21, h22, h23, h24, h25, hds⟩, h26, h27, h28, h87⟩ h29 h32 h33 h34 h35 h36 h37 h40
      · have q2 : now + max D 1 ≤ x := of_decide_eq_true (hA1.trans ha)
        rw [if_pos q2] at hL
        rw [ha] at h145
        refine at_true 145 rfl h145 ?_
        (conv => arg 4; whnf)
        refine fw_region_lit rfl ?_
        simp [go_sem, opsF, opF, upF, Region.wanted, Fr.ev, Fr.put, thenE, inBlockE, Oper.semAt, yieldF, h6, h7, h8, h19, h20, h21, h22, h23, h24, h25, h26, h27, h28, h29, h32, h33, h34, h35, h36, h37, h38, h39, h40, h87, h139, h143, h145]
        refine on_kf hK9 [(6, .int .u8 p6), (7, .int .u8 p7), (8, .int .u8 p8), (19, .pointer (some ⟨bt, 0, none⟩)), (20, .int .i64 x), (21, .int .i64 y), (22, .int .i64 0), (23, .int .i64 e1), (24, .int .i64 e2), (25, .int .i64 e3), (26, .int .i64 fr), (27, .int .i64 to), (28, .int .i64 now), (29, .bool o), (32, .bool (decide (0 ≤ D) && decide (now + max D 1 ≤ y))), (33, .bool (decide ((0 : Int) = 0) && o)), (34, .int .i64 0), (35, .bool (decide ((0 : Int) = 0) && decide (now + max D 1 ≤ y))), (36, .int .i64 0), (37, .int .i64 look), (38, .bool o), (39, .bool a1), (40, .int .i64 17), (87, .int .i64 now), (139, .bool false), (143, .bool false), (145, .bool true)] (by simp [h6, h7, h8, h19, h20, h21, h22, h23, h24, h25, h26, h27, h28, h29, h32, h33, h34, h35, h36, h37, h38, h39, h40, h87, h139, h143, h145]) hds ?_
        clear hK9 h6 h7 h8 h19 h20 h21 h22 h23 h24 h25 h26 h27 h28 h29 h32 h33 h34 h35 h36 h37 h38 h39 h40 h87 h139 h143 h145 hds; intro s hs hds
        obtain ⟨h6, h7, h8, h19, h20, h21, h22, h23, h24, h25, h26, h27, h28, h29, h32, h33, h34, h35, h36, h37, h38, h39, h40, h87, h139, h143, h145⟩ := facts27 hs; clear hs
        subst hL
        exact done s ⟨⟨h6, h7, h8, h19, h20, h21, h22, h23, h24, h25, hds⟩, h26, h27, h28, h87⟩ h29 h32 h33 h34 h35 h36 h37 h40
    · have q1 : x + P ≤ now := of_decide_eq_true (hO.trans ho)
      rw [if_pos q1] at hL
      rw [ho] at h143
      refine at_true 143 rfl h143 ?_
      (conv => arg 4; whnf)
      refine fw_region_lit rfl ?_
      simp [go_sem, opsF, opF, upF, Region.wanted, Fr.ev, Fr.put, thenE, inBlockE, Oper.semAt, yieldF, h6, h7, h8, h19, h20, h21, h22, h23, h24, h25, h26, h27, h28, h29, h32, h33, h34, h35, h36, h37, h38, h39, h40, h87, h139, h143]
      refine on_kf hK9 [(6, .int .u8 p6), (7, .int .u8 p7), (8, .int .u8 p8), (19, .pointer (some ⟨bt, 0, none⟩)), (20, .int .i64 x), (21, .int .i64 y), (22, .int .i64 0), (23, .int .i64 e1), (24, .int .i64 e2), (25, .int .i64 e3), (26, .int .i64 fr), (27, .int .i64 to), (28, .int .i64 now), (29, .bool o), (32, .bool (decide (0 ≤ D) && decide (now + max D 1 ≤ y))), (33, .bool (decide ((0 : Int) = 0) && o)), (34, .int .i64 0), (35, .bool (decide ((0 : Int) = 0) && decide (now + max D 1 ≤ y))), (36, .int .i64 0), (37, .int .i64 look), (38, .bool o), (39, .bool a1), (40, .int .i64 16), (87, .int .i64 now), (139, .bool false), (143, .bool true)] (by simp [h6, h7, h8, h19, h20, h21, h22, h23, h24, h25, h26, h27, h28, h29, h32, h33, h34, h35, h36, h37, h38, h39, h40, h87, h139, h143]) hds ?_
      clear hK9 h6 h7 h8 h19 h20 h21 h22 h23 h24 h25 h26 h27 h28 h29 h32 h33 h34 h35 h36 h37 h38 h39 h40 h87 h139 h143 hds; intro s hs hds
      obtain ⟨h6, h7, h8, h19, h20, h21, h22, h23, h24, h25, h26, h27, h28, h29, h32, h33, h34, h35, h36, h37, h38, h39, h40, h87, h139, h143⟩ := facts26 hs; clear hs
      subst hL
      exact done s ⟨⟨h6, h7, h8, h19, h20, h21, h22, h23, h24, h25, hds⟩, h26, h27, h28, h87⟩ h29 h32 h33 h34 h35 h36 h37 h40
  · have hz' : (bad != 0) = true := by simp [hz]
    rw [if_neg hz] at hL
    (conv => arg 4; whnf)
    refine fw_region_lit rfl ?_
    simp [go_sem, opsF, opF, upF, Region.wanted, Fr.ev, Fr.put, thenE, inBlockE, Oper.semAt, yieldF, h6, h7, h8, h19, h20, h21, h22, h23, h24, h25, h26, h27, h28, h29, h32, h33, h34, h35, h36, h37, h38, h39, h40, h87, hz']
    refine on_kf hK10 [(6, .int .u8 p6), (7, .int .u8 p7), (8, .int .u8 p8), (19, .pointer (some ⟨bt, 0, none⟩)), (20, .int .i64 x), (21, .int .i64 y), (22, .int .i64 bad), (23, .int .i64 e1), (24, .int .i64 e2), (25, .int .i64 e3), (26, .int .i64 fr), (27, .int .i64 to), (28, .int .i64 now), (29, .bool o), (32, .bool (decide (0 ≤ D) && decide (now + max D 1 ≤ y))), (33, .bool (decide (bad = 0) && o)), (34, .int .i64 bad), (35, .bool (decide (bad = 0) && decide (now + max D 1 ≤ y))), (36, .int .i64 bad), (37, .int .i64 look), (38, .bool o), (39, .bool (decide (0 ≤ D) && a1)), (40, .int .i64 0), (87, .int .i64 now), (139, .bool true)] (by simp [h6, h7, h8, h19, h20, h21, h22, h23, h24, h25, h26, h27, h28, h29, h32, h33, h34, h35, h36, h37, h38, h39, h40, h87]) hds ?_
    clear hK10 h6 h7 h8 h19 h20 h21 h22 h23 h24 h25 h26 h27 h28 h29 h32 h33 h34 h35 h36 h37 h38 h39 h40 h87 hds; intro s hs hds
    obtain ⟨h6, h7, h8, h19, h20, h21, h22, h23, h24, h25, h26, h27, h28, h29, h32, h33, h34, h35, h36, h37, h38, h39, h40, h87, h139⟩ := facts25 hs; clear hs
    refine at_true 139 rfl h139 ?_
    (conv => arg 4; whnf)
    refine fw_region_lit rfl ?_
    simp [go_sem, opsF, opF, upF, Region.wanted, Fr.ev, Fr.put, thenE, inBlockE, Oper.semAt, yieldF, h6, h7, h8, h19, h20, h21, h22, h23, h24, h25, h26, h27, h28, h29, h32, h33, h34, h35, h36, h37, h38, h39, h40, h87, h139]
    refine on_kf hK9 [(6, .int .u8 p6), (7, .int .u8 p7), (8, .int .u8 p8), (19, .pointer (some ⟨bt, 0, none⟩)), (20, .int .i64 x), (21, .int .i64 y), (22, .int .i64 bad), (23, .int .i64 e1), (24, .int .i64 e2), (25, .int .i64 e3), (26, .int .i64 fr), (27, .int .i64 to), (28, .int .i64 now), (29, .bool o), (32, .bool (decide (0 ≤ D) && decide (now + max D 1 ≤ y))), (33, .bool (decide (bad = 0) && o)), (34, .int .i64 bad), (35, .bool (decide (bad = 0) && decide (now + max D 1 ≤ y))), (36, .int .i64 bad), (37, .int .i64 look), (38, .bool o), (39, .bool (decide (0 ≤ D) && a1)), (40, .int .i64 bad), (87, .int .i64 now), (139, .bool true)] (by simp [h6, h7, h8, h19, h20, h21, h22, h23, h24, h25, h26, h27, h28, h29, h32, h33, h34, h35, h36, h37, h38, h39, h40, h87, h139]) hds ?_
    clear hK9 h6 h7 h8 h19 h20 h21 h22 h23 h24 h25 h26 h27 h28 h29 h32 h33 h34 h35 h36 h37 h38 h39 h40 h87 h139 hds; intro s hs hds
    obtain ⟨h6, h7, h8, h19, h20, h21, h22, h23, h24, h25, h26, h27, h28, h29, h32, h33, h34, h35, h36, h37, h38, h39, h40, h87, h139⟩ := facts25 hs; clear hs
    subst hL
    exact done s ⟨⟨h6, h7, h8, h19, h20, h21, h22, h23, h24, h25, hds⟩, h26, h27, h28, h87⟩ h29 h32 h33 h34 h35 h36 h37 h40
end Go.Proofs.Ytiejaopidkghdab
