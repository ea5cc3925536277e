/- The law's window. -/
import Derived.Test.YtiejaopidkghdabTo
namespace Go.Proofs.Ytiejaopidkghdab
set_option linter.unusedSimpArgs false
set_option linter.unusedVariables false
open Go.RowKit Go.Lf

theorem seg33 (s : Fr) (w : World) (K : Fr → World → Prop) (Q : Exit → Fr → World → Prop) (bt : Nat) (x y P D m d e1 e2 e3 p6 p7 p8 : Int)
    (hs : FC bt x y (badOf P D m d) e1 e2 e3 p6 p7 p8 s) (h26 : s.t 26 = .int .i64 (fromOf (loOf y D) (x + P) 400)) (h27 : s.t 27 = .int .i64 (toOf (loOf y D) (x + P) 400)) (hw : winOf x y P D m d = .tuple #[.int .i64 e1, .int .i64 e2, .int .i64 e3]) (hxp : x + P < 400)
    (hK : ∀ s, FC bt x y (badOf P D m d) e1 e2 e3 p6 p7 p8 s → K s w) : FW Try.prog 372 none (sub body3 [0,1,1,1,1,1,1,1]) (thenE K Q) s w := by
  obtain ⟨h6, h7, h8, h19, h20, h21, h22, h23, h24, h25, hds⟩ := hs
  have hlo := lo_nonneg y D
  have hdz : badOf P D m d = 0 → 0 ≤ D := by
    intro h
    unfold badOf at h
    split at h
    · omega
    · omega
  unfold winOf at hw
  generalize hB : badOf P D m d = bad at *
  generalize hfr : fromOf (loOf y D) (x + P) 400 = fr at *
  generalize hto : toOf (loOf y D) (x + P) 400 = to at *
  unfold fromOf at hfr
  unfold toOf at hto
  refine at_block 3 rfl ?_
  by_cases hz : bad = 0
  · subst hz
    have hD0 := hdz rfl
    have hl : loOf y D = max 0 (y - max D 1 + 1) := by unfold loOf; rw [if_pos hD0]
    rw [if_pos rfl, ← hl] at hw
    refine at_seq rfl fun K1 hK1 => ?_
    (conv => arg 4; whnf)
    refine fw_region_lit rfl ?_
    simp [go_sem, opsF, opF, upF, Region.wanted, Fr.ev, Fr.put, thenE, inBlockE, Oper.semAt, yieldF, h6, h7, h8, h19, h20, h21, h22, h23, h24, h25, h26, h27]
    refine on_kf hK1 [(6, .int .u8 p6), (7, .int .u8 p7), (8, .int .u8 p8), (19, .pointer (some ⟨bt, 0, none⟩)), (20, .int .i64 x), (21, .int .i64 y), (22, .int .i64 0), (23, .int .i64 e1), (24, .int .i64 e2), (25, .int .i64 e3), (26, .int .i64 fr), (27, .int .i64 to), (200, .bool false)] (by simp [h6, h7, h8, h19, h20, h21, h22, h23, h24, h25, h26, h27]) hds ?_
    clear hK1 h6 h7 h8 h19 h20 h21 h22 h23 h24 h25 h26 h27 hds; intro s hs hds
    obtain ⟨h6, h7, h8, h19, h20, h21, h22, h23, h24, h25, h26, h27, h200⟩ := facts13 hs; clear hs
    refine at_false 200 rfl h200 ?_
    by_cases hge : x + P ≤ loOf y D
    · rw [if_pos hge] at hw
      rw [if_neg (by omega)] at hfr
      simp at hw
      obtain ⟨rfl, rfl, rfl⟩ := hw
      subst hfr
      refine at_seq rfl fun K2 hK2 => ?_
      (conv => arg 4; whnf)
      refine fw_region_lit rfl ?_
      simp [go_sem, opsF, opF, upF, Region.wanted, Fr.ev, Fr.put, thenE, inBlockE, Oper.semAt, yieldF, h6, h7, h8, h19, h20, h21, h22, h23, h24, h25, h26, h27, h200]
      refine on_kf hK2 [(6, .int .u8 p6), (7, .int .u8 p7), (8, .int .u8 p8), (19, .pointer (some ⟨bt, 0, none⟩)), (20, .int .i64 x), (21, .int .i64 y), (22, .int .i64 0), (23, .int .i64 0), (24, .int .i64 0), (25, .int .i64 16), (26, .int .i64 (-1)), (27, .int .i64 to), (200, .bool false), (206, .bool true)] (by simp [h6, h7, h8, h19, h20, h21, h22, h23, h24, h25, h26, h27, h200]) hds ?_
      clear hK2 h6 h7 h8 h19 h20 h21 h22 h23 h24 h25 h26 h27 h200 hds; intro s hs hds
      obtain ⟨h6, h7, h8, h19, h20, h21, h22, h23, h24, h25, h26, h27, h200, h206⟩ := facts14 hs; clear hs
      refine at_true 206 rfl h206 ?_
      refine at_seq rfl fun K3 hK3 => ?_
      (conv => arg 4; whnf)
      refine fw_region_lit rfl ?_
      simp [go_sem, opsF, opF, upF, Region.wanted, Fr.ev, Fr.put, thenE, inBlockE, Oper.semAt, yieldF, h6, h7, h8, h19, h20, h21, h22, h23, h24, h25, h26, h27, h200, h206]
      refine on_kf hK3 [(6, .int .u8 p6), (7, .int .u8 p7), (8, .int .u8 p8), (19, .pointer (some ⟨bt, 0, none⟩)), (20, .int .i64 x), (21, .int .i64 y), (22, .int .i64 0), (23, .int .i64 0), (24, .int .i64 0), (25, .int .i64 16), (26, .int .i64 (-1)), (27, .int .i64 to), (200, .bool false), (206, .bool true), (218, .bool false)] (by simp [h6, h7, h8, h19, h20, h21, h22, h23, h24, h25, h26, h27, h200, h206]) hds ?_
      clear hK3 h6 h7 h8 h19 h20 h21 h22 h23 h24 h25 h26 h27 h200 h206 hds; intro s hs hds
      obtain ⟨h6, h7, h8, h19, h20, h21, h22, h23, h24, h25, h26, h27, h200, h206, h218⟩ := facts15 hs; clear hs
      refine at_false 218 rfl h218 ?_
      refine at_skip rfl ?_
      simp only [inBlockE, thenE]
      exact hK s ⟨h6, h7, h8, h19, h20, h21, h22, h23, h24, h25, hds⟩
    · rw [if_neg hge] at hw
      rw [if_pos (by omega)] at hfr hto
      simp at hw
      obtain ⟨rfl, rfl, rfl⟩ := hw
      subst hfr
      have ht : to = x + P - 1 := by omega
      subst ht
      have d1 : ¬ loOf y D < 0 := by omega
      refine at_seq rfl fun K4 hK4 => ?_
      (conv => arg 4; whnf)
      refine fw_region_lit rfl ?_
      simp [go_sem, opsF, opF, upF, Region.wanted, Fr.ev, Fr.put, thenE, inBlockE, Oper.semAt, yieldF, h6, h7, h8, h19, h20, h21, h22, h23, h24, h25, h26, h27, h200, d1]
      refine on_kf hK4 [(6, .int .u8 p6), (7, .int .u8 p7), (8, .int .u8 p8), (19, .pointer (some ⟨bt, 0, none⟩)), (20, .int .i64 x), (21, .int .i64 y), (22, .int .i64 0), (23, .int .i64 (loOf y D)), (24, .int .i64 (x + P - 1)), (25, .int .i64 0), (26, .int .i64 (loOf y D)), (27, .int .i64 (x + P - 1)), (200, .bool false), (206, .bool false)] (by simp [h6, h7, h8, h19, h20, h21, h22, h23, h24, h25, h26, h27, h200]) hds ?_
      clear hK4 h6 h7 h8 h19 h20 h21 h22 h23 h24 h25 h26 h27 h200 hds; intro s hs hds
      obtain ⟨h6, h7, h8, h19, h20, h21, h22, h23, h24, h25, h26, h27, h200, h206⟩ := facts14 hs; clear hs
      refine at_false 206 rfl h206 ?_
      refine at_seq rfl fun K5 hK5 => ?_
      (conv => arg 4; whnf)
      refine fw_region_lit rfl ?_
      simp [go_sem, opsF, opF, upF, Region.wanted, Fr.ev, Fr.put, thenE, inBlockE, Oper.semAt, yieldF, h6, h7, h8, h19, h20, h21, h22, h23, h24, h25, h26, h27, h200, h206]
      refine on_kf hK5 [(6, .int .u8 p6), (7, .int .u8 p7), (8, .int .u8 p8), (19, .pointer (some ⟨bt, 0, none⟩)), (20, .int .i64 x), (21, .int .i64 y), (22, .int .i64 0), (23, .int .i64 (loOf y D)), (24, .int .i64 (x + P - 1)), (25, .int .i64 0), (26, .int .i64 (loOf y D)), (27, .int .i64 (x + P - 1)), (200, .bool false), (206, .bool false), (219, .bool false)] (by simp [h6, h7, h8, h19, h20, h21, h22, h23, h24, h25, h26, h27, h200, h206]) hds ?_
      clear hK5 h6 h7 h8 h19 h20 h21 h22 h23 h24 h25 h26 h27 h200 h206 hds; intro s hs hds
      obtain ⟨h6, h7, h8, h19, h20, h21, h22, h23, h24, h25, h26, h27, h200, h206, h219⟩ := facts15 hs; clear hs
      refine at_false 219 rfl h219 ?_
      refine at_skip rfl ?_
      simp only [inBlockE, thenE]
      exact hK s ⟨h6, h7, h8, h19, h20, h21, h22, h23, h24, h25, hds⟩
  · have hz' : (bad != 0) = true := by simp [hz]
    rw [if_neg hz] at hw
    simp at hw
    obtain ⟨rfl, rfl, rfl⟩ := hw
    refine at_seq rfl fun K6 hK6 => ?_
    (conv => arg 4; whnf)
    refine fw_region_lit rfl ?_
    simp [go_sem, opsF, opF, upF, Region.wanted, Fr.ev, Fr.put, thenE, inBlockE, Oper.semAt, yieldF, h6, h7, h8, h19, h20, h21, h22, h23, h24, h25, h26, h27, hz']
    refine on_kf hK6 [(6, .int .u8 p6), (7, .int .u8 p7), (8, .int .u8 p8), (19, .pointer (some ⟨bt, 0, none⟩)), (20, .int .i64 x), (21, .int .i64 y), (22, .int .i64 bad), (23, .int .i64 0), (24, .int .i64 0), (25, .int .i64 bad), (26, .int .i64 fr), (27, .int .i64 to), (200, .bool true)] (by simp [h6, h7, h8, h19, h20, h21, h22, h23, h24, h25, h26, h27]) hds ?_
    clear hK6 h6 h7 h8 h19 h20 h21 h22 h23 h24 h25 h26 h27 hds; intro s hs hds
    obtain ⟨h6, h7, h8, h19, h20, h21, h22, h23, h24, h25, h26, h27, h200⟩ := facts13 hs; clear hs
    refine at_true 200 rfl h200 ?_
    refine at_seq rfl fun K7 hK7 => ?_
    (conv => arg 4; whnf)
    refine fw_region_lit rfl ?_
    simp [go_sem, opsF, opF, upF, Region.wanted, Fr.ev, Fr.put, thenE, inBlockE, Oper.semAt, yieldF, h6, h7, h8, h19, h20, h21, h22, h23, h24, h25, h26, h27, h200]
    refine on_kf hK7 [(6, .int .u8 p6), (7, .int .u8 p7), (8, .int .u8 p8), (19, .pointer (some ⟨bt, 0, none⟩)), (20, .int .i64 x), (21, .int .i64 y), (22, .int .i64 bad), (23, .int .i64 0), (24, .int .i64 0), (25, .int .i64 bad), (26, .int .i64 fr), (27, .int .i64 to), (200, .bool true), (205, .bool false)] (by simp [h6, h7, h8, h19, h20, h21, h22, h23, h24, h25, h26, h27, h200]) hds ?_
    clear hK7 h6 h7 h8 h19 h20 h21 h22 h23 h24 h25 h26 h27 h200 hds; intro s hs hds
    obtain ⟨h6, h7, h8, h19, h20, h21, h22, h23, h24, h25, h26, h27, h200, h205⟩ := facts14 hs; clear hs
    refine at_false 205 rfl h205 ?_
    refine at_skip rfl ?_
    simp only [inBlockE, thenE]
    exact hK s ⟨h6, h7, h8, h19, h20, h21, h22, h23, h24, h25, hds⟩
end Go.Proofs.Ytiejaopidkghdab
