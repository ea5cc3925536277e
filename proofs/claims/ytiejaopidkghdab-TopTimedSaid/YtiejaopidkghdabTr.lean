/- A round of the law's waits. -/
import Derived.Test.YtiejaopidkghdabTq
namespace Go.Proofs.Ytiejaopidkghdab
set_option linter.unusedSimpArgs false
set_option linter.unusedVariables false
open Go.RowKit Go.Lf

set_option maxHeartbeats 2000000 in
theorem wait_b (s : Fr) (w : World) (K : Fr → World → Prop) (Q : Exit → Fr → World → Prop) (x y low most n : Int) (k : Nat)
    (hs : FE x y low most true n s) (h48 : s.t 48 = .int .i64 (k : Int)) (h256 : s.t 256 = .int .i64 (k : Int)) (h45 : s.t 45 = .int .i64 (ww low most k)) (h46 : s.t 46 = .int .i64 (sm low most k)) (hf : 1 ≤ low ∧ low ≤ most) (hm : most ≤ 60) (hk : k ≤ 40) (hy : 0 ≤ y ∧ y ≤ 1000)
    (hK : ∀ s w', FE x y low most true n s → s.t 256 = .int .i64 (k : Int) → s.t 45 = .int .i64 (ww low most (k + 1)) → s.t 46 = .int .i64 (sm low most (k + 1)) → New w w' → K s w') : FW Try.prog 372 none (sub body3 [1,1,0,0,1,1,0,0,1,0,1,1,1,1,1,1,1,1,1,1,1,1]) (inBlockE 5 (thenE K Q)) s w := by
  obtain ⟨h20, h21, h43, h44, h47, h255, hds⟩ := hs
  have hwb : wbad low most = 0 := by unfold wbad; rw [if_pos (by omega)]
  have hmin := ww_min hf k
  have hww := ww_range hf k
  have hsm := sm_range (base := low) (cap := most) (by omega) k
  refine at_seq rfl fun K1 hK1 => ?_
  (conv => arg 4; whnf)
  refine fw_region_lit rfl ?_
  simp [go_sem, opsF, opF, upF, Region.wanted, Fr.ev, Fr.put, thenE, inBlockE, Oper.semAt, yieldF, h20, h21, h43, h44, h45, h46, h47, h48, h255, h256]
  refine (wait_any k low most w (by omega)).on ?_
  rintro _ w1 ⟨rfl, hw1⟩
  rw [if_pos hwb]
  simp [go_sem, opsF, opF, upF, Region.wanted, Fr.ev, Fr.put, thenE, inBlockE, Oper.semAt, yieldF, h20, h21, h43, h44, h45, h46, h47, h48, h255, h256]
  refine on_kf hK1 [(20, .int .i64 x), (21, .int .i64 y), (43, .int .i64 low), (44, .int .i64 most), (45, .int .i64 (ww low most k)), (46, .int .i64 (sm low most k)), (47, .bool true), (48, .int .i64 (k : Int)), (53, .int .i64 (wv low most k)), (54, .int .i64 0), (255, .int .i64 n), (256, .int .i64 (k : Int))] (by simp [h20, h21, h43, h44, h45, h46, h47, h48, h255, h256]) hds ?_
  clear hK1 h20 h21 h43 h44 h45 h46 h47 h48 h255 h256 hds; intro s hs hds
  obtain ⟨h20, h21, h43, h44, h45, h46, h47, h48, h53, h54, h255, h256⟩ := facts12 hs; clear hs
  refine at_seq rfl fun K2 hK2 => ?_
  (conv => arg 4; whnf)
  refine fw_region_lit rfl ?_
  simp [go_sem, opsF, opF, upF, Region.wanted, Fr.ev, Fr.put, thenE, inBlockE, Oper.semAt, yieldF, h20, h21, h43, h44, h45, h46, h47, h48, h53, h54, h255, h256]
  refine (sum_any k low most w1 (by omega)).on ?_
  rintro _ w2 ⟨rfl, hw2⟩
  rw [if_pos hwb]
  simp [go_sem, opsF, opF, upF, Region.wanted, Fr.ev, Fr.put, thenE, inBlockE, Oper.semAt, yieldF, h20, h21, h43, h44, h45, h46, h47, h48, h53, h54, h255, h256]
  refine on_kf hK2 [(20, .int .i64 x), (21, .int .i64 y), (43, .int .i64 low), (44, .int .i64 most), (45, .int .i64 (ww low most k)), (46, .int .i64 (sm low most k)), (47, .bool true), (48, .int .i64 (k : Int)), (53, .int .i64 (wv low most k)), (54, .int .i64 0), (55, .int .i64 (sm low most k)), (56, .int .i64 0), (255, .int .i64 n), (256, .int .i64 (k : Int))] (by simp [h20, h21, h43, h44, h45, h46, h47, h48, h53, h54, h255, h256]) hds ?_
  clear hK2 h20 h21 h43 h44 h45 h46 h47 h48 h53 h54 h255 h256 hds; intro s hs hds
  obtain ⟨h20, h21, h43, h44, h45, h46, h47, h48, h53, h54, h55, h56, h255, h256⟩ := facts14 hs; clear hs
  refine at_seq rfl fun K3 hK3 => ?_
  (conv => arg 4; whnf)
  refine fw_region_lit rfl ?_
  simp [go_sem, opsF, opF, upF, Region.wanted, Fr.ev, Fr.put, thenE, inBlockE, Oper.semAt, yieldF, h20, h21, h43, h44, h45, h46, h47, h48, h53, h54, h55, h56, h255, h256]
  refine (deadline_any y k low most w2 (by omega) (by omega) hy).on ?_
  rintro _ w3 ⟨rfl, hw3⟩
  simp [go_sem, opsF, opF, upF, Region.wanted, Fr.ev, Fr.put, thenE, inBlockE, Oper.semAt, yieldF, h20, h21, h43, h44, h45, h46, h47, h48, h53, h54, h55, h56, h255, h256]
  refine on_kf hK3 [(20, .int .i64 x), (21, .int .i64 y), (43, .int .i64 low), (44, .int .i64 most), (45, .int .i64 (ww low most k)), (46, .int .i64 (sm low most k)), (47, .bool true), (48, .int .i64 (k : Int)), (53, .int .i64 (wv low most k)), (54, .int .i64 0), (55, .int .i64 (sm low most k)), (56, .int .i64 0), (57, .int .i64 (y + wv low most k)), (58, .int .i64 0), (255, .int .i64 n), (256, .int .i64 (k : Int))] (by simp [h20, h21, h43, h44, h45, h46, h47, h48, h53, h54, h55, h56, h255, h256]) hds ?_
  clear hK3 h20 h21 h43 h44 h45 h46 h47 h48 h53 h54 h55 h56 h255 h256 hds; intro s hs hds
  obtain ⟨h20, h21, h43, h44, h45, h46, h47, h48, h53, h54, h55, h56, h57, h58, h255, h256⟩ := facts16 hs; clear hs
  have hwv := wv_range (base := low) (cap := most) hf k
  have d1 : IntKind.i64.wrap (y + wv low most k) = y + wv low most k := IntWalk.i64_in _ (by omega)
  have d2 : IntKind.i64.wrap (sm low most k + wv low most k) = sm low most k + wv low most k := IntWalk.i64_in _ (by omega)
  have d3 : IntKind.i64.wrap (ww low most k * 2) = ww low most k * 2 := IntWalk.i64_in _ (by omega)
  refine at_seq rfl fun K4 hK4 => ?_
  refine at_seq rfl fun K5 hK5 => ?_
  (conv => arg 4; whnf)
  refine fw_region_lit rfl ?_
  simp [go_sem, opsF, opF, upF, Region.wanted, Fr.ev, Fr.put, thenE, inBlockE, Oper.semAt, yieldF, h20, h21, h43, h44, h45, h46, h47, h48, h53, h54, h55, h56, h57, h58, h255, h256, hmin, d1]
  refine on_kf hK5 [(20, .int .i64 x), (21, .int .i64 y), (43, .int .i64 low), (44, .int .i64 most), (45, .int .i64 (ww low most k)), (46, .int .i64 (sm low most k)), (47, .bool true), (48, .int .i64 (k : Int)), (53, .int .i64 (wv low most k)), (54, .int .i64 0), (55, .int .i64 (sm low most k)), (56, .int .i64 0), (57, .int .i64 (y + wv low most k)), (58, .int .i64 0), (255, .int .i64 n), (256, .int .i64 (k : Int)), (333, .bool false)] (by simp [h20, h21, h43, h44, h45, h46, h47, h48, h53, h54, h55, h56, h57, h58, h255, h256]) hds ?_
  clear hK5 h20 h21 h43 h44 h45 h46 h47 h48 h53 h54 h55 h56 h57 h58 h255 h256 hds; intro s hs hds
  obtain ⟨h20, h21, h43, h44, h45, h46, h47, h48, h53, h54, h55, h56, h57, h58, h255, h256, h333⟩ := facts17 hs; clear hs
  refine at_false 333 rfl h333 ?_
  refine at_skip rfl ?_
  simp only [inBlockE, thenE]
  refine on_kf hK4 [(20, .int .i64 x), (21, .int .i64 y), (43, .int .i64 low), (44, .int .i64 most), (45, .int .i64 (ww low most k)), (46, .int .i64 (sm low most k)), (47, .bool true), (48, .int .i64 (k : Int)), (53, .int .i64 (wv low most k)), (54, .int .i64 0), (55, .int .i64 (sm low most k)), (56, .int .i64 0), (57, .int .i64 (y + wv low most k)), (58, .int .i64 0), (255, .int .i64 n), (256, .int .i64 (k : Int))] (by simp [h20, h21, h43, h44, h45, h46, h47, h48, h53, h54, h55, h56, h57, h58, h255, h256, h333]) hds ?_
  clear hK4 h20 h21 h43 h44 h45 h46 h47 h48 h53 h54 h55 h56 h57 h58 h255 h256 h333 hds; intro s hs hds
  obtain ⟨h20, h21, h43, h44, h45, h46, h47, h48, h53, h54, h55, h56, h57, h58, h255, h256⟩ := facts16 hs; clear hs
  refine at_seq rfl fun K6 hK6 => ?_
  (conv => arg 4; whnf)
  refine fw_region_lit rfl ?_
  simp [go_sem, opsF, opF, upF, Region.wanted, Fr.ev, Fr.put, thenE, inBlockE, Oper.semAt, yieldF, h20, h21, h43, h44, h45, h46, h47, h48, h53, h54, h55, h56, h57, h58, h255, h256, d2]
  have hs1 : sm low most (k + 1) = sm low most k + wv low most k := rfl
  rw [← hs1]
  refine on_kf hK6 [(20, .int .i64 x), (21, .int .i64 y), (43, .int .i64 low), (44, .int .i64 most), (45, .int .i64 (ww low most k)), (46, .int .i64 (sm low most (k + 1))), (47, .bool true), (48, .int .i64 (k : Int)), (53, .int .i64 (wv low most k)), (54, .int .i64 0), (55, .int .i64 (sm low most k)), (56, .int .i64 0), (57, .int .i64 (y + wv low most k)), (58, .int .i64 0), (255, .int .i64 n), (256, .int .i64 (k : Int))] (by simp [h20, h21, h43, h44, h45, h46, h47, h48, h53, h54, h55, h56, h57, h58, h255, h256]) hds ?_
  clear hK6 h20 h21 h43 h44 h45 h46 h47 h48 h53 h54 h55 h56 h57 h58 h255 h256 hds; intro s hs hds
  obtain ⟨h20, h21, h43, h44, h45, h46, h47, h48, h53, h54, h55, h56, h57, h58, h255, h256⟩ := facts16 hs; clear hs
  refine at_seq rfl fun K7 hK7 => ?_
  have hNW := New.trans (New.trans hw1 hw2) hw3
  by_cases hlt : ww low most k < most
  · (conv => arg 4; whnf)
    refine fw_region_lit rfl ?_
    simp [go_sem, opsF, opF, upF, Region.wanted, Fr.ev, Fr.put, thenE, inBlockE, Oper.semAt, yieldF, h20, h21, h43, h44, h45, h46, h47, h48, h53, h54, h55, h56, h57, h58, h255, h256, hlt]
    refine on_kf hK7 [(20, .int .i64 x), (21, .int .i64 y), (43, .int .i64 low), (44, .int .i64 most), (45, .int .i64 (ww low most k)), (46, .int .i64 (sm low most (k + 1))), (47, .bool true), (48, .int .i64 (k : Int)), (53, .int .i64 (wv low most k)), (54, .int .i64 0), (55, .int .i64 (sm low most k)), (56, .int .i64 0), (57, .int .i64 (y + wv low most k)), (58, .int .i64 0), (255, .int .i64 n), (256, .int .i64 (k : Int)), (339, .bool true)] (by simp [h20, h21, h43, h44, h45, h46, h47, h48, h53, h54, h55, h56, h57, h58, h255, h256]) hds ?_
    clear hK7 h20 h21 h43 h44 h45 h46 h47 h48 h53 h54 h55 h56 h57 h58 h255 h256 hds; intro s hs hds
    obtain ⟨h20, h21, h43, h44, h45, h46, h47, h48, h53, h54, h55, h56, h57, h58, h255, h256, h339⟩ := facts17 hs; clear hs
    refine at_true 339 rfl h339 ?_
    (conv => arg 4; whnf)
    refine fw_region_lit rfl ?_
    simp [go_sem, opsF, opF, upF, Region.wanted, Fr.ev, Fr.put, thenE, inBlockE, Oper.semAt, yieldF, h20, h21, h43, h44, h45, h46, h47, h48, h53, h54, h55, h56, h57, h58, h255, h256, h339, d3]
    refine hK _ _ ⟨?_, ?_, ?_, ?_, ?_, ?_, ?_⟩ ?_ ?_ ?_ hNW <;> simp [h20, h21, h43, h44, h47, h255, hds, h256, h46, ww, hlt]
  · (conv => arg 4; whnf)
    refine fw_region_lit rfl ?_
    simp [go_sem, opsF, opF, upF, Region.wanted, Fr.ev, Fr.put, thenE, inBlockE, Oper.semAt, yieldF, h20, h21, h43, h44, h45, h46, h47, h48, h53, h54, h55, h56, h57, h58, h255, h256, hlt]
    refine on_kf hK7 [(20, .int .i64 x), (21, .int .i64 y), (43, .int .i64 low), (44, .int .i64 most), (45, .int .i64 (ww low most k)), (46, .int .i64 (sm low most (k + 1))), (47, .bool true), (48, .int .i64 (k : Int)), (53, .int .i64 (wv low most k)), (54, .int .i64 0), (55, .int .i64 (sm low most k)), (56, .int .i64 0), (57, .int .i64 (y + wv low most k)), (58, .int .i64 0), (255, .int .i64 n), (256, .int .i64 (k : Int)), (339, .bool false)] (by simp [h20, h21, h43, h44, h45, h46, h47, h48, h53, h54, h55, h56, h57, h58, h255, h256]) hds ?_
    clear hK7 h20 h21 h43 h44 h45 h46 h47 h48 h53 h54 h55 h56 h57 h58 h255 h256 hds; intro s hs hds
    obtain ⟨h20, h21, h43, h44, h45, h46, h47, h48, h53, h54, h55, h56, h57, h58, h255, h256, h339⟩ := facts17 hs; clear hs
    refine at_false 339 rfl h339 ?_
    refine at_skip rfl ?_
    exact hK _ _ ⟨h20, h21, h43, h44, h47, h255, hds⟩ h256 (by rw [h45, ww, if_neg hlt]) h46 hNW
end Go.Proofs.Ytiejaopidkghdab
