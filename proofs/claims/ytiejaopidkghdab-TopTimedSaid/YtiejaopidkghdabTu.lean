/- The law's loop of doublings, and the wait that is the cap. -/
import Derived.Test.YtiejaopidkghdabTt
namespace Go.Proofs.Ytiejaopidkghdab
set_option linter.unusedSimpArgs false
set_option linter.unusedVariables false
open Go.RowKit Go.Lf

theorem ww_first {low most : Int} (h : 1 ≤ low ∧ low ≤ most) : ∃ n : Nat, (n : Int) ≤ most ∧ (∀ j, j < n → ww low most j < most) ∧ ¬ ww low most n < most := by
  have key : ∀ k : Nat, (∃ n : Nat, n ≤ k ∧ (∀ j, j < n → ww low most j < most) ∧ ¬ ww low most n < most) ∨ ((∀ j, j ≤ k → ww low most j < most) ∧ (k : Int) + 1 ≤ ww low most k) := by
    intro k
    induction k with
    | zero =>
      by_cases hb : ww low most 0 < most
      · refine .inr ⟨fun j hj => ?_, ?_⟩
        · have : j = 0 := by omega
          rw [this]; exact hb
        · unfold ww; simp; omega
      · exact .inl ⟨0, by omega, fun j hj => by omega, hb⟩
    | succ k ih =>
      rcases ih with ⟨n, h1, h2, h3⟩ | ⟨h1, h2⟩
      · exact .inl ⟨n, by omega, h2, h3⟩
      · by_cases hb : ww low most (k + 1) < most
        · refine .inr ⟨fun j hj => ?_, ?_⟩
          · by_cases hjk : j ≤ k
            · exact h1 j hjk
            · have : j = k + 1 := by omega
              rw [this]; exact hb
          · have := h1 k (by omega)
            unfold ww
            rw [if_pos this]
            omega
        · exact .inl ⟨k + 1, by omega, fun j hj => h1 j (by omega), hb⟩
  rcases key most.toNat with ⟨n, h1, h2, h3⟩ | ⟨h1, h2⟩
  · exact ⟨n, by omega, h2, h3⟩
  · have := h1 most.toNat (by omega)
    omega

def DoI (w0 : World) (x y low most : Int) (n last : Nat) (mm : Nat) (s : Fr) (w : World) : Prop :=
  ∃ k : Nat, k ≤ last ∧ mm = last - k ∧ FE x y low most true (n : Int) s ∧ s.t 61 = .int .i64 (k : Int) ∧ s.t 45 = .int .i64 (ww low most k) ∧ s.t 59 = .int .i64 (last : Int) ∧ s.t 60 = .int .i64 0 ∧ w = w0

theorem seg64 (s : Fr) (w : World) (K : Fr → World → Prop) (Q : Exit → Fr → World → Prop) (x y low most : Int) (n : Nat)
    (hs : FE x y low most true (n : Int) s) (hf : 1 ≤ low ∧ low ≤ most) (hm : most ≤ 60)
    (hK : ∀ s w', FE x y low most true (n : Int) s → New w w' → K s w') : FW Try.prog 372 none (sub body3 [0,1,0,1,1,1,1,1,1,1,1,1,1,1,1,1]) (thenE K Q) s w := by
  obtain ⟨last, hl1, hl2, hl3⟩ := ww_first hf
  have hlo : ∀ j, j < last → wv low most j ≠ most := by
    intro j hj
    have h1 := hl2 j hj
    have h2 := ww_min hf j
    rw [if_neg (by omega)] at h2
    omega
  have hhi : wv low most last = most := by
    have h2 := ww_min hf last
    split at h2 <;> omega
  obtain ⟨h20, h21, h43, h44, h47, h255, hds⟩ := hs
  refine at_seq rfl fun K1 hK1 => ?_
  (conv => arg 4; whnf)
  refine fw_region_lit rfl ?_
  simp [go_sem, opsF, opF, upF, Region.wanted, Fr.ev, Fr.put, thenE, inBlockE, Oper.semAt, yieldF, h20, h21, h43, h44, h47, h255]
  refine (full_any last low most w (by omega) (by omega) hlo hhi).on ?_
  rintro _ w1 ⟨rfl, hw1⟩
  simp [go_sem, opsF, opF, upF, Region.wanted, Fr.ev, Fr.put, thenE, inBlockE, Oper.semAt, yieldF, h20, h21, h43, h44, h47, h255]
  refine on_kf hK1 [(20, .int .i64 x), (21, .int .i64 y), (43, .int .i64 low), (44, .int .i64 most), (47, .bool true), (59, .int .i64 (last : Int)), (60, .int .i64 0), (255, .int .i64 (n : Int))] (by simp [h20, h21, h43, h44, h47, h255]) hds ?_
  clear hK1 h20 h21 h43 h44 h47 h255 hds; intro s hs hds
  obtain ⟨h20, h21, h43, h44, h47, h59, h60, h255⟩ := facts8 hs; clear hs
  refine at_seq rfl fun K2 hK2 => ?_
  (conv => arg 4; whnf)
  refine fw_region_lit rfl ?_
  simp [go_sem, opsF, opF, upF, Region.wanted, Fr.ev, Fr.put, thenE, inBlockE, Oper.semAt, yieldF, h20, h21, h43, h44, h47, h59, h60, h255]
  refine on_kf hK2 [(20, .int .i64 x), (21, .int .i64 y), (43, .int .i64 low), (44, .int .i64 most), (47, .bool true), (59, .int .i64 (last : Int)), (60, .int .i64 0), (61, .int .i64 0), (255, .int .i64 (n : Int))] (by simp [h20, h21, h43, h44, h47, h59, h60, h255]) hds ?_
  clear hK2 h20 h21 h43 h44 h47 h59 h60 h255 hds; intro s hs hds
  obtain ⟨h20, h21, h43, h44, h47, h59, h60, h61, h255⟩ := facts9 hs; clear hs
  refine at_seq rfl fun K3 hK3 => ?_
  refine at_seq rfl fun K4 hK4 => ?_
  (conv => arg 4; whnf)
  refine fw_region_lit rfl ?_
  simp [go_sem, opsF, opF, upF, Region.wanted, Fr.ev, Fr.put, thenE, inBlockE, Oper.semAt, yieldF, h20, h21, h43, h44, h47, h59, h60, h61, h255]
  refine on_kf hK4 [(20, .int .i64 x), (21, .int .i64 y), (43, .int .i64 low), (44, .int .i64 most), (45, .int .i64 low), (47, .bool true), (59, .int .i64 (last : Int)), (60, .int .i64 0), (61, .int .i64 0), (255, .int .i64 (n : Int))] (by simp [h20, h21, h43, h44, h47, h59, h60, h61, h255]) hds ?_
  clear hK4 h20 h21 h43 h44 h47 h59 h60 h61 h255 hds; intro s hs hds
  obtain ⟨h20, h21, h43, h44, h45, h47, h59, h60, h61, h255⟩ := facts10 hs; clear hs
  refine at_block 6 rfl ?_
  refine at_loop rfl (DoI w1 x y low most n last) last ⟨0, by omega, by omega, ⟨h20, h21, h43, h44, h47, h255, hds⟩, by simpa using h61, h45, h59, h60, rfl⟩ ?_
  clear h20 h21 h43 h44 h47 h255 hds h59 h60 h61 h45 s
  rintro mm s w2 ⟨k, hk, rfl, ⟨h20, h21, h43, h44, h47, h255, hds⟩, h61, h45, h59, h60, rfl⟩
  have hww := ww_range hf k
  by_cases hlt : k < last
  · have d0 := hl2 k hlt
    have d1 : IntKind.i64.wrap (ww low most k * 2) = ww low most k * 2 := IntWalk.i64_in _ (by omega)
    have d2 : IntKind.i64.wrap ((k : Int) + 1) = (k : Int) + 1 := IntWalk.i64_in _ (by omega)
    refine at_seq rfl fun K5 hK5 => ?_
    refine at_seq rfl fun K6 hK6 => ?_
    (conv => arg 4; whnf)
    refine fw_region_lit rfl ?_
    simp [go_sem, opsF, opF, upF, Region.wanted, Fr.ev, Fr.put, thenE, inBlockE, Oper.semAt, yieldF, h20, h21, h43, h44, h45, h47, h59, h60, h61, h255, d0]
    refine on_kf hK6 [(20, .int .i64 x), (21, .int .i64 y), (43, .int .i64 low), (44, .int .i64 most), (45, .int .i64 (ww low most k)), (47, .bool true), (59, .int .i64 (last : Int)), (60, .int .i64 0), (61, .int .i64 (k : Int)), (255, .int .i64 (n : Int)), (353, .bool true)] (by simp [h20, h21, h43, h44, h45, h47, h59, h60, h61, h255]) hds ?_
    clear hK6 h20 h21 h43 h44 h45 h47 h59 h60 h61 h255 hds; intro s hs hds
    obtain ⟨h20, h21, h43, h44, h45, h47, h59, h60, h61, h255, h353⟩ := facts11 hs; clear hs
    refine at_true 353 rfl h353 ?_
    refine at_skip rfl ?_
    simp only [inBlockE, thenE]
    refine on_kf hK5 [(20, .int .i64 x), (21, .int .i64 y), (43, .int .i64 low), (44, .int .i64 most), (45, .int .i64 (ww low most k)), (47, .bool true), (59, .int .i64 (last : Int)), (60, .int .i64 0), (61, .int .i64 (k : Int)), (255, .int .i64 (n : Int))] (by simp [h20, h21, h43, h44, h45, h47, h59, h60, h61, h255, h353]) hds ?_
    clear hK5 h20 h21 h43 h44 h45 h47 h59 h60 h61 h255 h353 hds; intro s hs hds
    obtain ⟨h20, h21, h43, h44, h45, h47, h59, h60, h61, h255⟩ := facts10 hs; clear hs
    refine at_seq rfl fun K7 hK7 => ?_
    refine at_block 7 rfl ?_
    (conv => arg 4; whnf)
    refine fw_region_lit rfl ?_
    simp [go_sem, opsF, opF, upF, Region.wanted, Fr.ev, Fr.put, thenE, inBlockE, Oper.semAt, yieldF, h20, h21, h43, h44, h45, h47, h59, h60, h61, h255, d2]
    refine on_kf hK7 [(20, .int .i64 x), (21, .int .i64 y), (43, .int .i64 low), (44, .int .i64 most), (45, .int .i64 (ww low most k)), (47, .bool true), (59, .int .i64 (last : Int)), (60, .int .i64 0), (61, .int .i64 ((k : Int) + 1)), (255, .int .i64 (n : Int))] (by simp [h20, h21, h43, h44, h45, h47, h59, h60, h61, h255]) hds ?_
    clear hK7 h20 h21 h43 h44 h45 h47 h59 h60 h61 h255 hds; intro s hs hds
    obtain ⟨h20, h21, h43, h44, h45, h47, h59, h60, h61, h255⟩ := facts10 hs; clear hs
    (conv => arg 4; whnf)
    refine fw_region_lit rfl ?_
    simp [go_sem, opsF, opF, upF, Region.wanted, Fr.ev, Fr.put, thenE, inBlockE, Oper.semAt, yieldF, h20, h21, h43, h44, h45, h47, h59, h60, h61, h255, d1]
    refine ⟨last - (k + 1), by omega, k + 1, by omega, rfl, ⟨?_, ?_, ?_, ?_, ?_, ?_, ?_⟩, ?_, ?_, ?_, ?_⟩ <;> simp [h20, h21, h43, h44, h47, h255, hds, h61, h59, h60, ww, d0]
  · have hkl : last = k := by omega
    subst hkl
    refine at_seq rfl fun K8 hK8 => ?_
    refine at_seq rfl fun K9 hK9 => ?_
    (conv => arg 4; whnf)
    refine fw_region_lit rfl ?_
    simp [go_sem, opsF, opF, upF, Region.wanted, Fr.ev, Fr.put, thenE, inBlockE, Oper.semAt, yieldF, h20, h21, h43, h44, h45, h47, h59, h60, h61, h255, hl3]
    refine on_kf hK9 [(20, .int .i64 x), (21, .int .i64 y), (43, .int .i64 low), (44, .int .i64 most), (45, .int .i64 (ww low most last)), (47, .bool true), (59, .int .i64 (last : Int)), (60, .int .i64 0), (61, .int .i64 (last : Int)), (255, .int .i64 (n : Int)), (353, .bool false)] (by simp [h20, h21, h43, h44, h45, h47, h59, h60, h61, h255]) hds ?_
    clear hK9 h20 h21 h43 h44 h45 h47 h59 h60 h61 h255 hds; intro s hs hds
    obtain ⟨h20, h21, h43, h44, h45, h47, h59, h60, h61, h255, h353⟩ := facts11 hs; clear hs
    refine at_false 353 rfl h353 ?_
    refine at_exit 6 rfl ?_
    simp only [inBlockE, thenE]
    refine hK3 _ _ ?_
    clear hK3
    refine at_seq rfl fun K10 hK10 => ?_
    (conv => arg 4; whnf)
    refine fw_region_lit rfl ?_
    simp [go_sem, opsF, opF, upF, Region.wanted, Fr.ev, Fr.put, thenE, inBlockE, Oper.semAt, yieldF, h20, h21, h43, h44, h45, h47, h59, h60, h61, h255, h353]
    refine on_kf hK10 [(20, .int .i64 x), (21, .int .i64 y), (43, .int .i64 low), (44, .int .i64 most), (45, .int .i64 (ww low most last)), (47, .bool true), (59, .int .i64 (last : Int)), (60, .int .i64 0), (61, .int .i64 (last : Int)), (255, .int .i64 (n : Int)), (353, .bool false), (364, .bool false)] (by simp [h20, h21, h43, h44, h45, h47, h59, h60, h61, h255, h353]) hds ?_
    clear hK10 h20 h21 h43 h44 h45 h47 h59 h60 h61 h255 h353 hds; intro s hs hds
    obtain ⟨h20, h21, h43, h44, h45, h47, h59, h60, h61, h255, h353, h364⟩ := facts12 hs; clear hs
    refine at_false 364 rfl h364 ?_
    refine at_skip rfl ?_
    simp only [inBlockE, thenE]
    exact hK s _ ⟨h20, h21, h43, h44, h47, h255, hds⟩ hw1
end Go.Proofs.Ytiejaopidkghdab
