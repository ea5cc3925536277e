/- The law's loop over waits that may not be. -/
import Derived.Test.YtiejaopidkghdabTs
namespace Go.Proofs.Ytiejaopidkghdab
set_option linter.unusedSimpArgs false
set_option linter.unusedVariables false
open Go.RowKit Go.Lf

def NaI (w0 : World) (x y low most : Int) (n : Nat) (mm : Nat) (s : Fr) (w : World) : Prop :=
  ∃ k : Nat, k ≤ n ∧ mm = n - k ∧ FE x y low most false (n : Int) s ∧ s.t 256 = .int .i64 (k : Int) ∧ New w0 w

theorem loop3 (s : Fr) (w : World) (K : Fr → World → Prop) (Q : Exit → Fr → World → Prop) (x y low most : Int) (n : Nat)
    (hs : FE x y low most false (n : Int) s) (h256 : s.t 256 = .int .i64 0) (hf : ¬ (1 ≤ low ∧ low ≤ most)) (hm : most ≤ 60) (hn : n ≤ 40)
    (hK : ∀ s w', FE x y low most false (n : Int) s → New w w' → K s w') : FW Try.prog 372 none (sub body3 [1,0,1,1,1,1,1,1,1,1,1,1,1,1]) (thenE K Q) s w := by
  have hwb : wbad low most = 3 := by unfold wbad; rw [if_neg (by omega)]
  have hwb' : ¬ wbad low most = 0 := by omega
  refine at_block 4 rfl ?_
  refine at_loop rfl (NaI w x y low most n) n ⟨0, by omega, by omega, hs, by simpa using h256, Frm.refl _ _⟩ ?_
  clear hs h256 s
  rintro mm s w1 ⟨k, hk, rfl, ⟨h20, h21, h43, h44, h47, h255, hds⟩, h256, hw⟩
  by_cases hlt : k < n
  · have d0 : (k : Int) < (n : Int) := by omega
    refine at_seq rfl fun K1 hK1 => ?_
    (conv => arg 4; whnf)
    refine fw_region_lit rfl ?_
    simp [go_sem, opsF, opF, upF, Region.wanted, Fr.ev, Fr.put, thenE, inBlockE, Oper.semAt, yieldF, h20, h21, h43, h44, h47, h255, h256, d0]
    refine on_kf hK1 [(20, .int .i64 x), (21, .int .i64 y), (43, .int .i64 low), (44, .int .i64 most), (47, .bool false), (255, .int .i64 (n : Int)), (256, .int .i64 (k : Int)), (257, .bool true)] (by simp [h20, h21, h43, h44, h47, h255, h256]) hds ?_
    clear hK1 h20 h21 h43 h44 h47 h255 h256 hds; intro s hs hds
    obtain ⟨h20, h21, h43, h44, h47, h255, h256, h257⟩ := facts8 hs; clear hs
    refine at_seq rfl fun K2 hK2 => ?_
    refine at_true 257 rfl h257 ?_
    refine at_skip rfl ?_
    simp only [inBlockE, thenE]
    refine on_kf hK2 [(20, .int .i64 x), (21, .int .i64 y), (43, .int .i64 low), (44, .int .i64 most), (47, .bool false), (255, .int .i64 (n : Int)), (256, .int .i64 (k : Int))] (by simp [h20, h21, h43, h44, h47, h255, h256, h257]) hds ?_
    clear hK2 h20 h21 h43 h44 h47 h255 h256 h257 hds; intro s hs hds
    obtain ⟨h20, h21, h43, h44, h47, h255, h256⟩ := facts7 hs; clear hs
    refine at_seq rfl fun K3 hK3 => ?_
    refine at_block 5 rfl ?_
    refine at_seq rfl fun K4 hK4 => ?_
    (conv => arg 4; whnf)
    refine fw_region_lit rfl ?_
    simp [go_sem, opsF, opF, upF, Region.wanted, Fr.ev, Fr.put, thenE, inBlockE, Oper.semAt, yieldF, h20, h21, h43, h44, h47, h255, h256]
    refine on_kf hK4 [(20, .int .i64 x), (21, .int .i64 y), (43, .int .i64 low), (44, .int .i64 most), (47, .bool false), (48, .int .i64 (k : Int)), (255, .int .i64 (n : Int)), (256, .int .i64 (k : Int))] (by simp [h20, h21, h43, h44, h47, h255, h256]) hds ?_
    clear hK4 h20 h21 h43 h44 h47 h255 h256 hds; intro s hs hds
    obtain ⟨h20, h21, h43, h44, h47, h48, h255, h256⟩ := facts8 hs; clear hs
    refine at_seq rfl fun K5 hK5 => ?_
    refine at_seq rfl fun K6 hK6 => ?_
    (conv => arg 4; whnf)
    refine fw_region_lit rfl ?_
    simp [go_sem, opsF, opF, upF, Region.wanted, Fr.ev, Fr.put, thenE, inBlockE, Oper.semAt, yieldF, h20, h21, h43, h44, h47, h48, h255, h256]
    refine on_kf hK6 [(20, .int .i64 x), (21, .int .i64 y), (43, .int .i64 low), (44, .int .i64 most), (47, .bool false), (48, .int .i64 (k : Int)), (255, .int .i64 (n : Int)), (256, .int .i64 (k : Int)), (260, .bool true)] (by simp [h20, h21, h43, h44, h47, h48, h255, h256]) hds ?_
    clear hK6 h20 h21 h43 h44 h47 h48 h255 h256 hds; intro s hs hds
    obtain ⟨h20, h21, h43, h44, h47, h48, h255, h256, h260⟩ := facts9 hs; clear hs
    refine at_true 260 rfl h260 ?_
    refine at_seq rfl fun K7 hK7 => ?_
    (conv => arg 4; whnf)
    refine fw_region_lit rfl ?_
    simp [go_sem, opsF, opF, upF, Region.wanted, Fr.ev, Fr.put, thenE, inBlockE, Oper.semAt, yieldF, h20, h21, h43, h44, h47, h48, h255, h256, h260]
    refine (wait_any k low most w1 (by omega)).on ?_
    rintro _ w2 ⟨rfl, hw2⟩
    rw [if_neg hwb']
    simp [go_sem, opsF, opF, upF, Region.wanted, Fr.ev, Fr.put, thenE, inBlockE, Oper.semAt, yieldF, h20, h21, h43, h44, h47, h48, h255, h256, h260]
    refine on_kf hK7 [(20, .int .i64 x), (21, .int .i64 y), (43, .int .i64 low), (44, .int .i64 most), (47, .bool false), (48, .int .i64 (k : Int)), (50, .int .i64 3), (255, .int .i64 (n : Int)), (256, .int .i64 (k : Int)), (260, .bool true)] (by simp [h20, h21, h43, h44, h47, h48, h255, h256, h260]) hds ?_
    clear hK7 h20 h21 h43 h44 h47 h48 h255 h256 h260 hds; intro s hs hds
    obtain ⟨h20, h21, h43, h44, h47, h48, h50, h255, h256, h260⟩ := facts10 hs; clear hs
    refine at_seq rfl fun K8 hK8 => ?_
    (conv => arg 4; whnf)
    refine fw_region_lit rfl ?_
    simp [go_sem, opsF, opF, upF, Region.wanted, Fr.ev, Fr.put, thenE, inBlockE, Oper.semAt, yieldF, h20, h21, h43, h44, h47, h48, h50, h255, h256, h260]
    refine (sum_any k low most w2 (by omega)).on ?_
    rintro _ w3 ⟨rfl, hw3⟩
    rw [if_neg hwb']
    simp [go_sem, opsF, opF, upF, Region.wanted, Fr.ev, Fr.put, thenE, inBlockE, Oper.semAt, yieldF, h20, h21, h43, h44, h47, h48, h50, h255, h256, h260]
    refine on_kf hK8 [(20, .int .i64 x), (21, .int .i64 y), (43, .int .i64 low), (44, .int .i64 most), (47, .bool false), (48, .int .i64 (k : Int)), (50, .int .i64 3), (52, .int .i64 3), (255, .int .i64 (n : Int)), (256, .int .i64 (k : Int)), (260, .bool true)] (by simp [h20, h21, h43, h44, h47, h48, h50, h255, h256, h260]) hds ?_
    clear hK8 h20 h21 h43 h44 h47 h48 h50 h255 h256 h260 hds; intro s hs hds
    obtain ⟨h20, h21, h43, h44, h47, h48, h50, h52, h255, h256, h260⟩ := facts11 hs; clear hs
    refine at_seq rfl fun K9 hK9 => ?_
    refine at_seq rfl fun K10 hK10 => ?_
    (conv => arg 4; whnf)
    refine fw_region_lit rfl ?_
    simp [go_sem, opsF, opF, upF, Region.wanted, Fr.ev, Fr.put, thenE, inBlockE, Oper.semAt, yieldF, h20, h21, h43, h44, h47, h48, h50, h52, h255, h256, h260]
    refine on_kf hK10 [(20, .int .i64 x), (21, .int .i64 y), (43, .int .i64 low), (44, .int .i64 most), (47, .bool false), (48, .int .i64 (k : Int)), (50, .int .i64 3), (52, .int .i64 3), (255, .int .i64 (n : Int)), (256, .int .i64 (k : Int)), (260, .bool true), (280, .bool false)] (by simp [h20, h21, h43, h44, h47, h48, h50, h52, h255, h256, h260]) hds ?_
    clear hK10 h20 h21 h43 h44 h47 h48 h50 h52 h255 h256 h260 hds; intro s hs hds
    obtain ⟨h20, h21, h43, h44, h47, h48, h50, h52, h255, h256, h260, h280⟩ := facts12 hs; clear hs
    refine at_false 280 rfl h280 ?_
    refine at_skip rfl ?_
    simp only [inBlockE, thenE]
    refine on_kf hK9 [(20, .int .i64 x), (21, .int .i64 y), (43, .int .i64 low), (44, .int .i64 most), (47, .bool false), (48, .int .i64 (k : Int)), (50, .int .i64 3), (52, .int .i64 3), (255, .int .i64 (n : Int)), (256, .int .i64 (k : Int)), (260, .bool true)] (by simp [h20, h21, h43, h44, h47, h48, h50, h52, h255, h256, h260, h280]) hds ?_
    clear hK9 h20 h21 h43 h44 h47 h48 h50 h52 h255 h256 h260 h280 hds; intro s hs hds
    obtain ⟨h20, h21, h43, h44, h47, h48, h50, h52, h255, h256, h260⟩ := facts11 hs; clear hs
    refine at_exit 5 rfl ?_
    simp only [inBlockE, thenE, if_true]
    refine hK3 _ _ ?_
    clear hK3
    have d1 : IntKind.i64.wrap ((k : Int) + 1) = (k : Int) + 1 := IntWalk.i64_in _ (by omega)
    (conv => arg 4; whnf)
    refine fw_region_lit rfl ?_
    simp [go_sem, opsF, opF, upF, Region.wanted, Fr.ev, Fr.put, thenE, inBlockE, Oper.semAt, yieldF, h20, h21, h43, h44, h47, h48, h50, h52, h255, h256, h260, d1]
    refine ⟨n - (k + 1), by omega, k + 1, by omega, rfl, ⟨?_, ?_, ?_, ?_, ?_, ?_, ?_⟩, ?_, New.trans (New.trans hw hw2) hw3⟩ <;> simp [h20, h21, h43, h44, h47, h255, hds]
  · have d0 : ¬ (k : Int) < (n : Int) := by omega
    refine at_seq rfl fun K11 hK11 => ?_
    (conv => arg 4; whnf)
    refine fw_region_lit rfl ?_
    simp [go_sem, opsF, opF, upF, Region.wanted, Fr.ev, Fr.put, thenE, inBlockE, Oper.semAt, yieldF, h20, h21, h43, h44, h47, h255, h256, d0]
    refine on_kf hK11 [(20, .int .i64 x), (21, .int .i64 y), (43, .int .i64 low), (44, .int .i64 most), (47, .bool false), (255, .int .i64 (n : Int)), (256, .int .i64 (k : Int)), (257, .bool false)] (by simp [h20, h21, h43, h44, h47, h255, h256]) hds ?_
    clear hK11 h20 h21 h43 h44 h47 h255 h256 hds; intro s hs hds
    obtain ⟨h20, h21, h43, h44, h47, h255, h256, h257⟩ := facts8 hs; clear hs
    refine at_seq rfl fun K12 hK12 => ?_
    refine at_false 257 rfl h257 ?_
    refine at_exit 4 rfl ?_
    simp only [inBlockE, thenE]
    exact hK s w1 ⟨h20, h21, h43, h44, h47, h255, hds⟩ hw
end Go.Proofs.Ytiejaopidkghdab
