/- A round of the law's first loop. -/
import Derived.Test.YtiejaopidkghdabTm
namespace Go.Proofs.Ytiejaopidkghdab
set_option linter.unusedSimpArgs false
set_option linter.unusedVariables false
open Go.RowKit Go.Lf

set_option maxHeartbeats 4000000 in
theorem round_any (s : Fr) (w : World) (K : Fr → World → Prop) (Q : Exit → Fr → World → Prop) (bt : Nat) (x y P D m d e1 e2 e3 p6 p7 p8 fr to now : Int)
    (hs : FC bt x y (badOf P D m d) e1 e2 e3 p6 p7 p8 s) (h26 : s.t 26 = .int .i64 fr) (h27 : s.t 27 = .int .i64 to) (h87 : s.t 87 = .int .i64 now) (hb : Blk w bt #[.int .i64 P, .int .i64 D, .int .i64 m, .int .i64 d] 24)
    (hP : 0 ≤ P ∧ P ≤ 1000) (hD : -1 ≤ D ∧ D ≤ 1000) (hm : 0 ≤ m ∧ m ≤ 100) (hd : 0 ≤ d ∧ d ≤ 100) (hx : 0 ≤ x ∧ x ≤ 1000) (hy : 0 ≤ y ∧ y ≤ 1000) (hn : 0 ≤ now ∧ now ≤ 1000)
    (hK : ∀ s w' fr' to', FC bt x y (badOf P D m d) e1 e2 e3 p6 p7 p8 s → s.t 26 = .int .i64 fr' → s.t 27 = .int .i64 to' → s.t 87 = .int .i64 now → New w w' →
      fr' = (if loOf y D ≤ now ∧ now < x + P then (if fr < 0 then now else fr) else fr) → to' = (if loOf y D ≤ now ∧ now < x + P then now else to) → K s w') : FW Try.prog 372 none (sub body3 [0,0,1,1,0,0,1,0,1,1,1,1,1,1]) (inBlockE 1 (thenE K Q)) s w := by
  obtain ⟨h6, h7, h8, h19, h20, h21, h22, h23, h24, h25, hds⟩ := hs
  refine at_seq rfl fun K1 hK1 => ?_
  (conv => arg 4; whnf)
  refine fw_region_lit rfl ?_
  simp [go_sem, opsF, opF, upF, Region.wanted, Fr.ev, Fr.put, thenE, inBlockE, Oper.semAt, yieldF, h6, h7, h8, h19, h20, h21, h22, h23, h24, h25, h26, h27, h87]
  refine on_kf hK1 [(6, .int .u8 p6), (7, .int .u8 p7), (8, .int .u8 p8), (19, .pointer (some ⟨bt, 0, none⟩)), (20, .int .i64 x), (21, .int .i64 y), (22, .int .i64 (badOf P D m d)), (23, .int .i64 e1), (24, .int .i64 e2), (25, .int .i64 e3), (26, .int .i64 fr), (27, .int .i64 to), (28, .int .i64 now), (87, .int .i64 now)] (by simp [h6, h7, h8, h19, h20, h21, h22, h23, h24, h25, h26, h27, h87]) hds ?_
  clear hK1 h6 h7 h8 h19 h20 h21 h22 h23 h24 h25 h26 h27 h87 hds; intro s hs hds
  obtain ⟨h6, h7, h8, h19, h20, h21, h22, h23, h24, h25, h26, h27, h28, h87⟩ := facts14 hs; clear hs
  have x0 := hb.cell 0
  have x1 := hb.cell 1
  have x2 := hb.cell 2
  have x3 := hb.cell 3
  simp only [List.getElem?_toArray, List.getElem?_cons_zero, List.getElem?_cons_succ] at x0 x1 x2 x3
  refine at_seq rfl fun K2 hK2 => ?_
  (conv => arg 4; whnf)
  refine fw_region_lit rfl ?_
  simp [go_sem, opsF, opF, upF, Region.wanted, Fr.ev, Fr.put, thenE, inBlockE, Oper.semAt, yieldF, h6, h7, h8, h19, h20, h21, h22, h23, h24, h25, h26, h27, h28, h87, x0, x1, x2, x3]
  refine (aged_any x now P D m d w hP hD hx hn).on ?_
  rintro _ w1 ⟨rfl, hw1⟩
  simp [go_sem, opsF, opF, upF, Region.wanted, Fr.ev, Fr.put, thenE, inBlockE, Oper.semAt, yieldF, h6, h7, h8, h19, h20, h21, h22, h23, h24, h25, h26, h27, h28, h87]
  refine on_kf hK2 [(6, .int .u8 p6), (7, .int .u8 p7), (8, .int .u8 p8), (19, .pointer (some ⟨bt, 0, none⟩)), (20, .int .i64 x), (21, .int .i64 y), (22, .int .i64 (badOf P D m d)), (23, .int .i64 e1), (24, .int .i64 e2), (25, .int .i64 e3), (26, .int .i64 fr), (27, .int .i64 to), (28, .int .i64 now), (29, .bool (decide (x + P ≤ now))), (87, .int .i64 now)] (by simp [h6, h7, h8, h19, h20, h21, h22, h23, h24, h25, h26, h27, h28, h87]) hds ?_
  clear hK2 h6 h7 h8 h19 h20 h21 h22 h23 h24 h25 h26 h27 h28 h87 hds; intro s hs hds
  obtain ⟨h6, h7, h8, h19, h20, h21, h22, h23, h24, h25, h26, h27, h28, h29, h87⟩ := facts15 hs; clear hs
  have hb1 := hb.frm hw1 (fun h => h)
  clear x0 x1 x2 x3
  have x0 := hb1.cell 0
  have x1 := hb1.cell 1
  have x2 := hb1.cell 2
  have x3 := hb1.cell 3
  simp only [List.getElem?_toArray, List.getElem?_cons_zero, List.getElem?_cons_succ] at x0 x1 x2 x3
  refine at_seq rfl fun K3 hK3 => ?_
  (conv => arg 4; whnf)
  refine fw_region_lit rfl ?_
  simp [go_sem, opsF, opF, upF, Region.wanted, Fr.ev, Fr.put, thenE, inBlockE, Oper.semAt, yieldF, h6, h7, h8, h19, h20, h21, h22, h23, h24, h25, h26, h27, h28, h29, h87, x0, x1, x2, x3]
  refine (aged_any y now P D m d w1 hP hD hy hn).on ?_
  rintro _ w2 ⟨rfl, hw2⟩
  simp [go_sem, opsF, opF, upF, Region.wanted, Fr.ev, Fr.put, thenE, inBlockE, Oper.semAt, yieldF, h6, h7, h8, h19, h20, h21, h22, h23, h24, h25, h26, h27, h28, h29, h87]
  refine on_kf hK3 [(6, .int .u8 p6), (7, .int .u8 p7), (8, .int .u8 p8), (19, .pointer (some ⟨bt, 0, none⟩)), (20, .int .i64 x), (21, .int .i64 y), (22, .int .i64 (badOf P D m d)), (23, .int .i64 e1), (24, .int .i64 e2), (25, .int .i64 e3), (26, .int .i64 fr), (27, .int .i64 to), (28, .int .i64 now), (29, .bool (decide (x + P ≤ now))), (32, .bool (decide (0 ≤ D) && decide (now + max D 1 ≤ y))), (87, .int .i64 now)] (by simp [h6, h7, h8, h19, h20, h21, h22, h23, h24, h25, h26, h27, h28, h29, h87]) hds ?_
  clear hK3 h6 h7 h8 h19 h20 h21 h22 h23 h24 h25 h26 h27 h28 h29 h87 hds; intro s hs hds
  obtain ⟨h6, h7, h8, h19, h20, h21, h22, h23, h24, h25, h26, h27, h28, h29, h32, h87⟩ := facts16 hs; clear hs
  have hb2 := hb1.frm hw2 (fun h => h)
  clear x0 x1 x2 x3
  have hfine := fine_iff (x := x) (y := y) (P := P) (D := D) now hn.1
  refine at_seq rfl fun K4 hK4 => ?_
  refine at_seq rfl fun K5 hK5 => ?_
  by_cases hF : loOf y D ≤ now ∧ now < x + P
  · have q := hfine.2 hF
    have f1 : decide (x + P ≤ now) = false := decide_eq_false q.1
    have f2 : (decide (0 ≤ D) && decide (now + max D 1 ≤ y)) = false := by
      cases h : (decide (0 ≤ D) && decide (now + max D 1 ≤ y))
      · rfl
      · simp at h; exact (q.2 h).elim
    rw [f1] at h29
    rw [f2] at h32
    (conv => arg 4; whnf)
    refine fw_region_lit rfl ?_
    simp [go_sem, opsF, opF, upF, Region.wanted, Fr.ev, Fr.put, thenE, inBlockE, Oper.semAt, yieldF, h6, h7, h8, h19, h20, h21, h22, h23, h24, h25, h26, h27, h28, h29, h32, h87]
    refine on_kf hK5 [(6, .int .u8 p6), (7, .int .u8 p7), (8, .int .u8 p8), (19, .pointer (some ⟨bt, 0, none⟩)), (20, .int .i64 x), (21, .int .i64 y), (22, .int .i64 (badOf P D m d)), (23, .int .i64 e1), (24, .int .i64 e2), (25, .int .i64 e3), (26, .int .i64 fr), (27, .int .i64 to), (28, .int .i64 now), (29, .bool false), (32, .bool false), (87, .int .i64 now), (109, .bool true)] (by simp [h6, h7, h8, h19, h20, h21, h22, h23, h24, h25, h26, h27, h28, h29, h32, h87]) hds ?_
    clear hK5 h6 h7 h8 h19 h20 h21 h22 h23 h24 h25 h26 h27 h28 h29 h32 h87 hds; intro s hs hds
    obtain ⟨h6, h7, h8, h19, h20, h21, h22, h23, h24, h25, h26, h27, h28, h29, h32, h87, h109⟩ := facts17 hs; clear hs
    refine at_true 109 rfl h109 ?_
    refine at_seq rfl fun K6 hK6 => ?_
    (conv => arg 4; whnf)
    refine fw_region_lit rfl ?_
    simp [go_sem, opsF, opF, upF, Region.wanted, Fr.ev, Fr.put, thenE, inBlockE, Oper.semAt, yieldF, h6, h7, h8, h19, h20, h21, h22, h23, h24, h25, h26, h27, h28, h29, h32, h87, h109]
    refine on_kf hK6 [(6, .int .u8 p6), (7, .int .u8 p7), (8, .int .u8 p8), (19, .pointer (some ⟨bt, 0, none⟩)), (20, .int .i64 x), (21, .int .i64 y), (22, .int .i64 (badOf P D m d)), (23, .int .i64 e1), (24, .int .i64 e2), (25, .int .i64 e3), (26, .int .i64 fr), (27, .int .i64 now), (28, .int .i64 now), (29, .bool false), (32, .bool false), (87, .int .i64 now), (109, .bool true)] (by simp [h6, h7, h8, h19, h20, h21, h22, h23, h24, h25, h26, h27, h28, h29, h32, h87, h109]) hds ?_
    clear hK6 h6 h7 h8 h19 h20 h21 h22 h23 h24 h25 h26 h27 h28 h29 h32 h87 h109 hds; intro s hs hds
    obtain ⟨h6, h7, h8, h19, h20, h21, h22, h23, h24, h25, h26, h27, h28, h29, h32, h87, h109⟩ := facts17 hs; clear hs
    refine at_seq rfl fun K7 hK7 => ?_
    by_cases hfr : fr < 0
    · (conv => arg 4; whnf)
      refine fw_region_lit rfl ?_
      simp [go_sem, opsF, opF, upF, Region.wanted, Fr.ev, Fr.put, thenE, inBlockE, Oper.semAt, yieldF, h6, h7, h8, h19, h20, h21, h22, h23, h24, h25, h26, h27, h28, h29, h32, h87, h109, hfr]
      refine on_kf hK7 [(6, .int .u8 p6), (7, .int .u8 p7), (8, .int .u8 p8), (19, .pointer (some ⟨bt, 0, none⟩)), (20, .int .i64 x), (21, .int .i64 y), (22, .int .i64 (badOf P D m d)), (23, .int .i64 e1), (24, .int .i64 e2), (25, .int .i64 e3), (26, .int .i64 fr), (27, .int .i64 now), (28, .int .i64 now), (29, .bool false), (32, .bool false), (87, .int .i64 now), (109, .bool true), (112, .bool true)] (by simp [h6, h7, h8, h19, h20, h21, h22, h23, h24, h25, h26, h27, h28, h29, h32, h87, h109]) hds ?_
      clear hK7 h6 h7 h8 h19 h20 h21 h22 h23 h24 h25 h26 h27 h28 h29 h32 h87 h109 hds; intro s hs hds
      obtain ⟨h6, h7, h8, h19, h20, h21, h22, h23, h24, h25, h26, h27, h28, h29, h32, h87, h109, h112⟩ := facts18 hs; clear hs
      refine at_true 112 rfl h112 ?_
      (conv => arg 4; whnf)
      refine fw_region_lit rfl ?_
      simp [go_sem, opsF, opF, upF, Region.wanted, Fr.ev, Fr.put, thenE, inBlockE, Oper.semAt, yieldF, h6, h7, h8, h19, h20, h21, h22, h23, h24, h25, h26, h27, h28, h29, h32, h87, h109, h112]
      refine on_kf hK4 [(6, .int .u8 p6), (7, .int .u8 p7), (8, .int .u8 p8), (19, .pointer (some ⟨bt, 0, none⟩)), (20, .int .i64 x), (21, .int .i64 y), (22, .int .i64 (badOf P D m d)), (23, .int .i64 e1), (24, .int .i64 e2), (25, .int .i64 e3), (26, .int .i64 now), (27, .int .i64 now), (28, .int .i64 now), (29, .bool false), (32, .bool false), (87, .int .i64 now), (109, .bool true), (112, .bool true)] (by simp [h6, h7, h8, h19, h20, h21, h22, h23, h24, h25, h26, h27, h28, h29, h32, h87, h109, h112]) hds ?_
      clear hK4 h6 h7 h8 h19 h20 h21 h22 h23 h24 h25 h26 h27 h28 h29 h32 h87 h109 h112 hds; intro s hs hds
      obtain ⟨h6, h7, h8, h19, h20, h21, h22, h23, h24, h25, h26, h27, h28, h29, h32, h87, h109, h112⟩ := facts18 hs; clear hs
      refine round_b s w2 K Q bt x y P D m d e1 e2 e3 p6 p7 p8 now now now ⟨⟨h6, h7, h8, h19, h20, h21, h22, h23, h24, h25, hds⟩, h26, h27, h28, h87⟩ (by rw [f1]; exact h29) (by rw [f2]; exact h32) hb2 hP hD hm hd hx hy hn (fun s w' hs hw' => hK s w' _ _ hs.fc hs.t26 hs.t27 hs.t87 (New.trans (New.trans hw1 hw2) hw') (by rw [if_pos hF, if_pos hfr]) (by rw [if_pos hF]))
    · (conv => arg 4; whnf)
      refine fw_region_lit rfl ?_
      simp [go_sem, opsF, opF, upF, Region.wanted, Fr.ev, Fr.put, thenE, inBlockE, Oper.semAt, yieldF, h6, h7, h8, h19, h20, h21, h22, h23, h24, h25, h26, h27, h28, h29, h32, h87, h109, hfr]
      refine on_kf hK7 [(6, .int .u8 p6), (7, .int .u8 p7), (8, .int .u8 p8), (19, .pointer (some ⟨bt, 0, none⟩)), (20, .int .i64 x), (21, .int .i64 y), (22, .int .i64 (badOf P D m d)), (23, .int .i64 e1), (24, .int .i64 e2), (25, .int .i64 e3), (26, .int .i64 fr), (27, .int .i64 now), (28, .int .i64 now), (29, .bool false), (32, .bool false), (87, .int .i64 now), (109, .bool true), (112, .bool false)] (by simp [h6, h7, h8, h19, h20, h21, h22, h23, h24, h25, h26, h27, h28, h29, h32, h87, h109]) hds ?_
      clear hK7 h6 h7 h8 h19 h20 h21 h22 h23 h24 h25 h26 h27 h28 h29 h32 h87 h109 hds; intro s hs hds
      obtain ⟨h6, h7, h8, h19, h20, h21, h22, h23, h24, h25, h26, h27, h28, h29, h32, h87, h109, h112⟩ := facts18 hs; clear hs
      refine at_false 112 rfl h112 ?_
      refine at_skip rfl ?_
      simp only [inBlockE, thenE]
      refine on_kf hK4 [(6, .int .u8 p6), (7, .int .u8 p7), (8, .int .u8 p8), (19, .pointer (some ⟨bt, 0, none⟩)), (20, .int .i64 x), (21, .int .i64 y), (22, .int .i64 (badOf P D m d)), (23, .int .i64 e1), (24, .int .i64 e2), (25, .int .i64 e3), (26, .int .i64 fr), (27, .int .i64 now), (28, .int .i64 now), (29, .bool false), (32, .bool false), (87, .int .i64 now), (109, .bool true), (112, .bool false)] (by simp [h6, h7, h8, h19, h20, h21, h22, h23, h24, h25, h26, h27, h28, h29, h32, h87, h109, h112]) hds ?_
      clear hK4 h6 h7 h8 h19 h20 h21 h22 h23 h24 h25 h26 h27 h28 h29 h32 h87 h109 h112 hds; intro s hs hds
      obtain ⟨h6, h7, h8, h19, h20, h21, h22, h23, h24, h25, h26, h27, h28, h29, h32, h87, h109, h112⟩ := facts18 hs; clear hs
      refine round_b s w2 K Q bt x y P D m d e1 e2 e3 p6 p7 p8 fr now now ⟨⟨h6, h7, h8, h19, h20, h21, h22, h23, h24, h25, hds⟩, h26, h27, h28, h87⟩ (by rw [f1]; exact h29) (by rw [f2]; exact h32) hb2 hP hD hm hd hx hy hn (fun s w' hs hw' => hK s w' _ _ hs.fc hs.t26 hs.t27 hs.t87 (New.trans (New.trans hw1 hw2) hw') (by rw [if_pos hF, if_neg hfr]) (by rw [if_pos hF]))
  · have q : ¬ (¬ x + P ≤ now ∧ ¬ (0 ≤ D ∧ now + max D 1 ≤ y)) := fun h => hF (hfine.1 h)
    obtain ⟨o, f1⟩ : ∃ o, decide (x + P ≤ now) = o := ⟨_, rfl⟩
    obtain ⟨a, f2⟩ : ∃ a, (decide (0 ≤ D) && decide (now + max D 1 ≤ y)) = a := ⟨_, rfl⟩
    rw [f1] at h29
    rw [f2] at h32
    have hoa : (!o && !a) = false := by
      rw [← f1, ← f2]
      simp
      intro h1
      by_cases h3 : 0 ≤ D ∧ now + max D 1 ≤ y
      · exact h3
      · exact (q ⟨by omega, h3⟩).elim
    clear q hfine
    cases o
    · have ha : a = true := by cases a <;> simp_all
      subst ha
      (conv => arg 4; whnf)
      refine fw_region_lit rfl ?_
      simp [go_sem, opsF, opF, upF, Region.wanted, Fr.ev, Fr.put, thenE, inBlockE, Oper.semAt, yieldF, h6, h7, h8, h19, h20, h21, h22, h23, h24, h25, h26, h27, h28, h29, h32, h87]
      refine on_kf hK5 [(6, .int .u8 p6), (7, .int .u8 p7), (8, .int .u8 p8), (19, .pointer (some ⟨bt, 0, none⟩)), (20, .int .i64 x), (21, .int .i64 y), (22, .int .i64 (badOf P D m d)), (23, .int .i64 e1), (24, .int .i64 e2), (25, .int .i64 e3), (26, .int .i64 fr), (27, .int .i64 to), (28, .int .i64 now), (29, .bool false), (32, .bool true), (87, .int .i64 now), (109, .bool false)] (by simp [h6, h7, h8, h19, h20, h21, h22, h23, h24, h25, h26, h27, h28, h29, h32, h87]) hds ?_
      clear hK5 h6 h7 h8 h19 h20 h21 h22 h23 h24 h25 h26 h27 h28 h29 h32 h87 hds; intro s hs hds
      obtain ⟨h6, h7, h8, h19, h20, h21, h22, h23, h24, h25, h26, h27, h28, h29, h32, h87, h109⟩ := facts17 hs; clear hs
      refine at_false 109 rfl h109 ?_
      refine at_skip rfl ?_
      simp only [inBlockE, thenE]
      refine on_kf hK4 [(6, .int .u8 p6), (7, .int .u8 p7), (8, .int .u8 p8), (19, .pointer (some ⟨bt, 0, none⟩)), (20, .int .i64 x), (21, .int .i64 y), (22, .int .i64 (badOf P D m d)), (23, .int .i64 e1), (24, .int .i64 e2), (25, .int .i64 e3), (26, .int .i64 fr), (27, .int .i64 to), (28, .int .i64 now), (29, .bool false), (32, .bool true), (87, .int .i64 now), (109, .bool false)] (by simp [h6, h7, h8, h19, h20, h21, h22, h23, h24, h25, h26, h27, h28, h29, h32, h87, h109]) hds ?_
      clear hK4 h6 h7 h8 h19 h20 h21 h22 h23 h24 h25 h26 h27 h28 h29 h32 h87 h109 hds; intro s hs hds
      obtain ⟨h6, h7, h8, h19, h20, h21, h22, h23, h24, h25, h26, h27, h28, h29, h32, h87, h109⟩ := facts17 hs; clear hs
      refine round_b s w2 K Q bt x y P D m d e1 e2 e3 p6 p7 p8 fr to now ⟨⟨h6, h7, h8, h19, h20, h21, h22, h23, h24, h25, hds⟩, h26, h27, h28, h87⟩ (by rw [f1]; exact h29) (by rw [f2]; exact h32) hb2 hP hD hm hd hx hy hn (fun s w' hs hw' => hK s w' _ _ hs.fc hs.t26 hs.t27 hs.t87 (New.trans (New.trans hw1 hw2) hw') (by rw [if_neg hF]) (by rw [if_neg hF]))
    · skip
      (conv => arg 4; whnf)
      refine fw_region_lit rfl ?_
      simp [go_sem, opsF, opF, upF, Region.wanted, Fr.ev, Fr.put, thenE, inBlockE, Oper.semAt, yieldF, h6, h7, h8, h19, h20, h21, h22, h23, h24, h25, h26, h27, h28, h29, h32, h87]
      refine on_kf hK5 [(6, .int .u8 p6), (7, .int .u8 p7), (8, .int .u8 p8), (19, .pointer (some ⟨bt, 0, none⟩)), (20, .int .i64 x), (21, .int .i64 y), (22, .int .i64 (badOf P D m d)), (23, .int .i64 e1), (24, .int .i64 e2), (25, .int .i64 e3), (26, .int .i64 fr), (27, .int .i64 to), (28, .int .i64 now), (29, .bool true), (32, .bool a), (87, .int .i64 now), (109, .bool false)] (by simp [h6, h7, h8, h19, h20, h21, h22, h23, h24, h25, h26, h27, h28, h29, h32, h87]) hds ?_
      clear hK5 h6 h7 h8 h19 h20 h21 h22 h23 h24 h25 h26 h27 h28 h29 h32 h87 hds; intro s hs hds
      obtain ⟨h6, h7, h8, h19, h20, h21, h22, h23, h24, h25, h26, h27, h28, h29, h32, h87, h109⟩ := facts17 hs; clear hs
      refine at_false 109 rfl h109 ?_
      refine at_skip rfl ?_
      simp only [inBlockE, thenE]
      refine on_kf hK4 [(6, .int .u8 p6), (7, .int .u8 p7), (8, .int .u8 p8), (19, .pointer (some ⟨bt, 0, none⟩)), (20, .int .i64 x), (21, .int .i64 y), (22, .int .i64 (badOf P D m d)), (23, .int .i64 e1), (24, .int .i64 e2), (25, .int .i64 e3), (26, .int .i64 fr), (27, .int .i64 to), (28, .int .i64 now), (29, .bool true), (32, .bool a), (87, .int .i64 now), (109, .bool false)] (by simp [h6, h7, h8, h19, h20, h21, h22, h23, h24, h25, h26, h27, h28, h29, h32, h87, h109]) hds ?_
      clear hK4 h6 h7 h8 h19 h20 h21 h22 h23 h24 h25 h26 h27 h28 h29 h32 h87 h109 hds; intro s hs hds
      obtain ⟨h6, h7, h8, h19, h20, h21, h22, h23, h24, h25, h26, h27, h28, h29, h32, h87, h109⟩ := facts17 hs; clear hs
      refine round_b s w2 K Q bt x y P D m d e1 e2 e3 p6 p7 p8 fr to now ⟨⟨h6, h7, h8, h19, h20, h21, h22, h23, h24, h25, hds⟩, h26, h27, h28, h87⟩ (by rw [f1]; exact h29) (by rw [f2]; exact h32) hb2 hP hD hm hd hx hy hn (fun s w' hs hw' => hK s w' _ _ hs.fc hs.t26 hs.t27 hs.t87 (New.trans (New.trans hw1 hw2) hw') (by rw [if_neg hF]) (by rw [if_neg hF]))
end Go.Proofs.Ytiejaopidkghdab
