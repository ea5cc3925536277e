/- The law's first loop. -/
import Derived.Test.YtiejaopidkghdabTn
namespace Go.Proofs.Ytiejaopidkghdab
set_option linter.unusedSimpArgs false
set_option linter.unusedVariables false
open Go.RowKit Go.Lf

def LoI (w0 : World) (bt : Nat) (x y P D m d e1 e2 e3 p6 p7 p8 : Int) (mm : Nat) (s : Fr) (w : World) : Prop :=
  ∃ k : Nat, k ≤ 400 ∧ mm = 400 - k ∧ FC bt x y (badOf P D m d) e1 e2 e3 p6 p7 p8 s ∧ s.t 26 = .int .i64 (fromOf (loOf y D) (x + P) k) ∧ s.t 27 = .int .i64 (toOf (loOf y D) (x + P) k) ∧ s.t 87 = .int .i64 (k : Int) ∧ New w0 w

theorem lo_nonneg (y D : Int) : 0 ≤ loOf y D := by unfold loOf; split <;> omega

theorem loop1 (s : Fr) (w : World) (K : Fr → World → Prop) (Q : Exit → Fr → World → Prop) (bt : Nat) (x y P D m d e1 e2 e3 p6 p7 p8 : Int)
    (hs : FC bt x y (badOf P D m d) e1 e2 e3 p6 p7 p8 s) (h26 : s.t 26 = .int .i64 (-1)) (h27 : s.t 27 = .int .i64 (-1)) (h87 : s.t 87 = .int .i64 0) (hb : Blk w bt #[.int .i64 P, .int .i64 D, .int .i64 m, .int .i64 d] 24)
    (hP : 0 ≤ P ∧ P ≤ 1000) (hD : -1 ≤ D ∧ D ≤ 1000) (hm : 0 ≤ m ∧ m ≤ 100) (hd : 0 ≤ d ∧ d ≤ 100) (hx : 0 ≤ x ∧ x ≤ 1000) (hy : 0 ≤ y ∧ y ≤ 1000)
    (hK : ∀ s w', FC bt x y (badOf P D m d) e1 e2 e3 p6 p7 p8 s → s.t 26 = .int .i64 (fromOf (loOf y D) (x + P) 400) → s.t 27 = .int .i64 (toOf (loOf y D) (x + P) 400) → New w w' → K s w') : FW Try.prog 372 none (sub body3 [1,0,1,1,1,1,1,1]) (thenE K Q) s w := by
  have hlo := lo_nonneg y D
  refine at_block 0 rfl ?_
  refine at_loop rfl (LoI w bt x y P D m d e1 e2 e3 p6 p7 p8) 400 ⟨0, by omega, by omega, hs, ?_, ?_, by simpa using h87, Frm.refl _ _⟩ ?_
  · rw [h26]; unfold fromOf; rw [if_neg (by simp; omega)]
  · rw [h27]; unfold toOf; rw [if_neg (by simp; omega)]
  clear hs h26 h27 h87 s
  rintro mm s w1 ⟨k, hk, rfl, ⟨h6, h7, h8, h19, h20, h21, h22, h23, h24, h25, hds⟩, h26, h27, h87, hw⟩
  generalize hfr : fromOf (loOf y D) (x + P) k = fr at *
  generalize hto : toOf (loOf y D) (x + P) k = to at *
  by_cases hlt : k < 400
  · have d0 : (k : Int) < 400 := by omega
    refine at_seq rfl fun K1 hK1 => ?_
    (conv => arg 4; whnf)
    refine fw_region_lit rfl ?_
    simp [go_sem, opsF, opF, upF, Region.wanted, Fr.ev, Fr.put, thenE, inBlockE, Oper.semAt, yieldF, h6, h7, h8, h19, h20, h21, h22, h23, h24, h25, h26, h27, h87, d0]
    refine on_kf hK1 [(6, .int .u8 p6), (7, .int .u8 p7), (8, .int .u8 p8), (19, .pointer (some ⟨bt, 0, none⟩)), (20, .int .i64 x), (21, .int .i64 y), (22, .int .i64 (badOf P D m d)), (23, .int .i64 e1), (24, .int .i64 e2), (25, .int .i64 e3), (26, .int .i64 fr), (27, .int .i64 to), (87, .int .i64 (k : Int)), (88, .bool true)] (by simp [h6, h7, h8, h19, h20, h21, h22, h23, h24, h25, h26, h27, h87]) hds ?_
    clear hK1 h6 h7 h8 h19 h20 h21 h22 h23 h24 h25 h26 h27 h87 hds; intro s hs hds
    obtain ⟨h6, h7, h8, h19, h20, h21, h22, h23, h24, h25, h26, h27, h87, h88⟩ := facts14 hs; clear hs
    refine at_seq rfl fun K2 hK2 => ?_
    refine at_true 88 rfl h88 ?_
    refine at_skip rfl ?_
    simp only [inBlockE, thenE]
    refine on_kf hK2 [(6, .int .u8 p6), (7, .int .u8 p7), (8, .int .u8 p8), (19, .pointer (some ⟨bt, 0, none⟩)), (20, .int .i64 x), (21, .int .i64 y), (22, .int .i64 (badOf P D m d)), (23, .int .i64 e1), (24, .int .i64 e2), (25, .int .i64 e3), (26, .int .i64 fr), (27, .int .i64 to), (87, .int .i64 (k : Int))] (by simp [h6, h7, h8, h19, h20, h21, h22, h23, h24, h25, h26, h27, h87, h88]) hds ?_
    clear hK2 h6 h7 h8 h19 h20 h21 h22 h23 h24 h25 h26 h27 h87 h88 hds; intro s hs hds
    obtain ⟨h6, h7, h8, h19, h20, h21, h22, h23, h24, h25, h26, h27, h87⟩ := facts13 hs; clear hs
    refine at_seq rfl fun K3 hK3 => ?_
    refine at_block 1 rfl ?_
    refine round_any s w1 _ _ bt x y P D m d e1 e2 e3 p6 p7 p8 fr to (k : Int) ⟨h6, h7, h8, h19, h20, h21, h22, h23, h24, h25, hds⟩ h26 h27 h87 (hb.frm hw (fun h => h)) hP hD hm hd hx hy (by omega) ?_
    clear h6 h7 h8 h19 h20 h21 h22 h23 h24 h25 h26 h27 h87 hds s
    rintro s w2 fr' to' ⟨h6, h7, h8, h19, h20, h21, h22, h23, h24, h25, hds⟩ h26 h27 h87 hw2 e1' e2'
    refine hK3 _ _ ?_
    clear hK3
    have d1 : IntKind.i64.wrap ((k : Int) + 1) = (k : Int) + 1 := IntWalk.i64_in _ (by omega)
    (conv => arg 4; whnf)
    refine fw_region_lit rfl ?_
    simp [go_sem, opsF, opF, upF, Region.wanted, Fr.ev, Fr.put, thenE, inBlockE, Oper.semAt, yieldF, h87, d1]
    refine ⟨400 - (k + 1), by omega, k + 1, by omega, rfl, ⟨?_, ?_, ?_, ?_, ?_, ?_, ?_, ?_, ?_, ?_, ?_⟩, ?_, ?_, ?_, New.trans hw hw2⟩
    iterate 11 (focus (simp [h6, h7, h8, h19, h20, h21, h22, h23, h24, h25, hds]; done))
    · rw [fromOf_succ hlo, hfr, ← e1']; simp [h26]
    · rw [toOf_succ hlo, hto, ← e2']; simp [h27]
    · simp
  · have d0 : ¬ (k : Int) < 400 := by omega
    have hk4 : k = 400 := by omega
    subst hk4
    refine at_seq rfl fun K4 hK4 => ?_
    (conv => arg 4; whnf)
    refine fw_region_lit rfl ?_
    simp [go_sem, opsF, opF, upF, Region.wanted, Fr.ev, Fr.put, thenE, inBlockE, Oper.semAt, yieldF, h6, h7, h8, h19, h20, h21, h22, h23, h24, h25, h26, h27, h87, d0]
    refine on_kf hK4 [(6, .int .u8 p6), (7, .int .u8 p7), (8, .int .u8 p8), (19, .pointer (some ⟨bt, 0, none⟩)), (20, .int .i64 x), (21, .int .i64 y), (22, .int .i64 (badOf P D m d)), (23, .int .i64 e1), (24, .int .i64 e2), (25, .int .i64 e3), (26, .int .i64 fr), (27, .int .i64 to), (87, .int .i64 ((400 : Nat) : Int)), (88, .bool false)] (by simp [h6, h7, h8, h19, h20, h21, h22, h23, h24, h25, h26, h27, h87]) hds ?_
    clear hK4 h6 h7 h8 h19 h20 h21 h22 h23 h24 h25 h26 h27 h87 hds; intro s hs hds
    obtain ⟨h6, h7, h8, h19, h20, h21, h22, h23, h24, h25, h26, h27, h87, h88⟩ := facts14 hs; clear hs
    refine at_seq rfl fun K5 hK5 => ?_
    refine at_false 88 rfl h88 ?_
    refine at_exit 0 rfl ?_
    simp only [inBlockE, thenE]
    exact hK s w1 ⟨h6, h7, h8, h19, h20, h21, h22, h23, h24, h25, hds⟩ (by rw [hfr]; exact h26) (by rw [hto]; exact h27) hw
end Go.Proofs.Ytiejaopidkghdab
