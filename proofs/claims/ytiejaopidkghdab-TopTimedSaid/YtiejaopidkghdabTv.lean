/- The law: it returns true, and writes nothing that was there. -/
import Derived.Test.YtiejaopidkghdabTu
namespace Go.Proofs.Ytiejaopidkghdab
set_option linter.unusedSimpArgs false
set_option linter.unusedVariables false
open Go.RowKit Go.Lf

theorem fa_nil {f : Nat → Value} : ∀ p ∈ ([] : List (Nat × Value)), f p.1 = p.2 := by simp
theorem fa_cons {f : Nat → Value} {k : Nat} {v : Value} {l : List (Nat × Value)} (h : f k = v) (t : ∀ p ∈ l, f p.1 = p.2) : ∀ p ∈ (k, v) :: l, f p.1 = p.2 := by
  intro p hp
  rcases List.mem_cons.1 hp with rfl | hp
  · exact h
  · exact t p hp

theorem win_some (x y P D m d : Int) : ∃ e1 e2 e3, winOf x y P D m d = .tuple #[.int .i64 e1, .int .i64 e2, .int .i64 e3] := by
  unfold winOf
  split
  · split <;> exact ⟨_, _, _, rfl⟩
  · exact ⟨_, _, _, rfl⟩

theorem rem_u8 {a : Int} (h : 0 ≤ a ∧ a ≤ 255) (k : Int) (hk : 0 < k) : 0 ≤ a % k ∧ a % k < k := ⟨Int.emod_nonneg _ (by omega), Int.emod_lt_of_pos _ hk⟩

set_option maxHeartbeats 2000000 in
theorem law_any (a0 a1 a2 a3 a4 a5 a6 a7 a8 : Int) (w : World) (b0 : 0 ≤ a0 ∧ a0 ≤ 65535) (b1 : 0 ≤ a1 ∧ a1 ≤ 65535) (b2 : 0 ≤ a2 ∧ a2 ≤ 255) (b3 : 0 ≤ a3 ∧ a3 ≤ 255) (b4 : 0 ≤ a4 ∧ a4 ≤ 255) (b5 : 0 ≤ a5 ∧ a5 ≤ 255) (b6 : 0 ≤ a6 ∧ a6 ≤ 255) (b7 : 0 ≤ a7 ∧ a7 ≤ 255) (b8 : 0 ≤ a8 ∧ a8 ≤ 255) :
    CallsV Try.prog 3 #[.int .u16 a0, .int .u16 a1, .int .u8 a2, .int .u8 a3, .int .u8 a4, .int .u8 a5, .int .u8 a6, .int .u8 a7, .int .u8 a8] w fun v w' => v = .bool true ∧ New w w' := by
  refine calls_at body3 Try.func3 rfl 372 rfl (by simp) fun s hs hds => ?_
  have h0 := hs 0 _ rfl
  have h1 := hs 1 _ rfl
  have h2 := hs 2 _ rfl
  have h3 := hs 3 _ rfl
  have h4 := hs 4 _ rfl
  have h5 := hs 5 _ rfl
  have h6 := hs 6 _ rfl
  have h7 := hs 7 _ rfl
  have h8 := hs 8 _ rfl
  clear hs
  have m4 : Int.tmod a4 200 = a4 % 200 := Int.tmod_eq_emod_of_nonneg (by omega)
  have m5 : Int.tmod a5 200 = a5 % 200 := Int.tmod_eq_emod_of_nonneg (by omega)
  have m6 : Int.tmod a6 60 = a6 % 60 := Int.tmod_eq_emod_of_nonneg (by omega)
  have m7 : Int.tmod a7 60 = a7 % 60 := Int.tmod_eq_emod_of_nonneg (by omega)
  have m8 : Int.tmod a8 40 = a8 % 40 := Int.tmod_eq_emod_of_nonneg (by omega)
  have hP : 0 ≤ a0 % 60 ∧ a0 % 60 ≤ 1000 := by omega
  have hD : -1 ≤ a1 % 20 - 1 ∧ a1 % 20 - 1 ≤ 1000 := by omega
  have hm : 0 ≤ a2 % 12 ∧ a2 % 12 ≤ 100 := by omega
  have hd : 0 ≤ a3 % 12 ∧ a3 % 12 ≤ 100 := by omega
  have hx : 0 ≤ a4 % 200 ∧ a4 % 200 ≤ 1000 := by omega
  have hy : 0 ≤ a5 % 200 ∧ a5 % 200 ≤ 1000 := by omega
  have hxp : a4 % 200 + a0 % 60 < 400 := by omega
  have hlow : 0 ≤ a6 % 60 ∧ a6 % 60 ≤ 60 := by omega
  have hmost : 0 ≤ a7 % 60 ∧ a7 % 60 ≤ 60 := by omega
  have hn : 0 ≤ a8 % 40 ∧ a8 % 40 ≤ 39 := by omega
  have u4 : IntKind.u8.wrap (a4 % 200) = a4 % 200 := IntWalk.u8_in _ (by omega)
  have u5 : IntKind.u8.wrap (a5 % 200) = a5 % 200 := IntWalk.u8_in _ (by omega)
  have v4 : IntKind.i64.wrap (a4 % 200) = a4 % 200 := IntWalk.i64_in _ (by omega)
  have v5 : IntKind.i64.wrap (a5 % 200) = a5 % 200 := IntWalk.i64_in _ (by omega)
  refine at_seq rfl fun K1 hK1 => ?_
  (conv => arg 4; whnf)
  refine fw_region_lit rfl ?_
  simp [go_sem, opsF, opF, upF, Region.wanted, Fr.ev, Fr.put, thenE, inBlockE, Oper.semAt, yieldF, h0, h1, h2, h3, h4, h5, h6, h7, h8]
  refine on_kf hK1 [(0, _), (1, _), (2, _), (3, _), (4, _), (5, _), (6, _), (7, _), (8, _)] (fa_cons h0 (fa_cons h1 (fa_cons h2 (fa_cons h3 (fa_cons h4 (fa_cons h5 (fa_cons h6 (fa_cons h7 (fa_cons h8 fa_nil))))))))) hds ?_
  clear hK1 h0 h1 h2 h3 h4 h5 h6 h7 h8 hds; intro s hs hds
  obtain ⟨h0, h1, h2, h3, h4, h5, h6, h7, h8⟩ := facts9 hs; clear hs
  refine at_seq rfl fun K2 hK2 => ?_
  (conv => arg 4; whnf)
  refine fw_region_lit rfl ?_
  simp [go_sem, opsF, opF, upF, Region.wanted, Fr.ev, Fr.put, thenE, inBlockE, Oper.semAt, yieldF, h0, h1, h2, h3, h4, h5, h6, h7, h8]
  refine (terms_any a0 a1 a2 a3 w b0 b1 b2 b3).on ?_
  rintro _ w1 ⟨rfl, hw1⟩
  generalize a0 % 60 = P at *
  generalize a1 % 20 - 1 = D at *
  generalize a2 % 12 = m at *
  generalize a3 % 12 = d at *
  unfold tv
  have hb := Blk.new w1 #[.int .i64 P, .int .i64 D, .int .i64 m, .int .i64 d] 24
  have hA := New.trans hw1 (Frm.alloc (fun _ => False) w1 (.cells #[.int .i64 P, .int .i64 D, .int .i64 m, .int .i64 d] 24))
  try simp [go_sem, opsF, opF, upF, Region.wanted, Fr.ev, Fr.put, thenE, inBlockE, Oper.semAt, yieldF, h0, h1, h2, h3, h4, h5, h6, h7, h8, m4, m5, u4, u5, v4, v5]
  generalize w1.alloc (.cells #[.int .i64 P, .int .i64 D, .int .i64 m, .int .i64 d] 24) = w2 at *
  generalize w1.heap.size = bt at *
  clear hw1
  refine on_kf hK2 [(6, _), (7, _), (8, _), (19, _), (20, _), (21, _)] (fa_cons h6 (fa_cons h7 (fa_cons h8 (fa_cons (by simp [h0, h1, h2, h3, h4, h5, h6, h7, h8] <;> rfl) (fa_cons (by simp [h0, h1, h2, h3, h4, h5, h6, h7, h8] <;> rfl) (fa_cons (by simp [h0, h1, h2, h3, h4, h5, h6, h7, h8] <;> rfl) fa_nil)))))) hds ?_
  clear hK2 h0 h1 h2 h3 h4 h5 h6 h7 h8 hds; intro s hs hds
  obtain ⟨h6, h7, h8, h19, h20, h21⟩ := facts6 hs; clear hs
  have L1 : w2.cell? ⟨bt, 0, none⟩ = some (.int .i64 P) := hb.cell 0
  have L2 : w2.cell? ⟨bt, 1, none⟩ = some (.int .i64 D) := hb.cell 1
  have L3 : w2.cell? ⟨bt, 2, none⟩ = some (.int .i64 m) := hb.cell 2
  have L4 : w2.cell? ⟨bt, 3, none⟩ = some (.int .i64 d) := hb.cell 3
  refine at_seq rfl fun K3 hK3 => ?_
  (conv => arg 4; whnf)
  refine fw_region_lit rfl ?_
  simp [go_sem, opsF, opF, upF, Region.wanted, Fr.ev, Fr.put, thenE, inBlockE, Oper.semAt, yieldF, h6, h7, h8, h19, h20, h21, L1, L2, L3, L4]
  refine (wrong_any P D m d w2 hP hD hm hd).on ?_
  rintro _ w3 ⟨rfl, hw3⟩
  have M1 : w3.cell? ⟨bt, 0, none⟩ = some (.int .i64 P) := (hb.frm hw3 (fun h => h)).cell 0
  have M2 : w3.cell? ⟨bt, 1, none⟩ = some (.int .i64 D) := (hb.frm hw3 (fun h => h)).cell 1
  have M3 : w3.cell? ⟨bt, 2, none⟩ = some (.int .i64 m) := (hb.frm hw3 (fun h => h)).cell 2
  have M4 : w3.cell? ⟨bt, 3, none⟩ = some (.int .i64 d) := (hb.frm hw3 (fun h => h)).cell 3
  have hW3 := New.trans hA hw3
  have hb3 := hb.frm hw3 (fun h => h)
  try simp [go_sem, opsF, opF, upF, Region.wanted, Fr.ev, Fr.put, thenE, inBlockE, Oper.semAt, yieldF, h6, h7, h8, h19, h20, h21]
  refine on_kf hK3 [(6, _), (7, _), (8, _), (19, _), (20, _), (21, _), (22, _)] (fa_cons h6 (fa_cons h7 (fa_cons h8 (fa_cons h19 (fa_cons h20 (fa_cons h21 (fa_cons (by simp [h6, h7, h8, h19, h20, h21] <;> rfl) fa_nil))))))) hds ?_
  clear hK3 h6 h7 h8 h19 h20 h21 hds; intro s hs hds
  obtain ⟨h6, h7, h8, h19, h20, h21, h22⟩ := facts7 hs; clear hs
  refine at_seq rfl fun K4 hK4 => ?_
  (conv => arg 4; whnf)
  refine fw_region_lit rfl ?_
  simp [go_sem, opsF, opF, upF, Region.wanted, Fr.ev, Fr.put, thenE, inBlockE, Oper.semAt, yieldF, h6, h7, h8, h19, h20, h21, h22, M1, M2, M3, M4]
  obtain ⟨e1, e2, e3, hwin⟩ := win_some (a4 % 200) (a5 % 200) P D m d
  refine (window_any (a4 % 200) (a5 % 200) P D m d w3 hP hD hm hd hx hy).on ?_
  rintro _ w4 ⟨rfl, hw4⟩
  rw [hwin]
  have hb4 := hb3.frm hw4 (fun h => h)
  have hW4 := New.trans hW3 hw4
  have N1 : w4.cell? ⟨bt, 0, none⟩ = some (.int .i64 P) := hb4.cell 0
  have N2 : w4.cell? ⟨bt, 1, none⟩ = some (.int .i64 D) := hb4.cell 1
  have N3 : w4.cell? ⟨bt, 2, none⟩ = some (.int .i64 m) := hb4.cell 2
  have N4 : w4.cell? ⟨bt, 3, none⟩ = some (.int .i64 d) := hb4.cell 3
  try simp [go_sem, opsF, opF, upF, Region.wanted, Fr.ev, Fr.put, thenE, inBlockE, Oper.semAt, yieldF, h6, h7, h8, h19, h20, h21, h22]
  refine on_kf hK4 [(6, _), (7, _), (8, _), (19, _), (20, _), (21, _), (22, _), (23, _), (24, _), (25, _)] (fa_cons h6 (fa_cons h7 (fa_cons h8 (fa_cons h19 (fa_cons h20 (fa_cons h21 (fa_cons h22 (fa_cons (by simp [h6, h7, h8, h19, h20, h21, h22] <;> rfl) (fa_cons (by simp [h6, h7, h8, h19, h20, h21, h22] <;> rfl) (fa_cons (by simp [h6, h7, h8, h19, h20, h21, h22] <;> rfl) fa_nil)))))))))) hds ?_
  clear hK4 h6 h7 h8 h19 h20 h21 h22 hds; intro s hs hds
  obtain ⟨h6, h7, h8, h19, h20, h21, h22, h23, h24, h25⟩ := facts10 hs; clear hs
  refine at_seq rfl fun K5 hK5 => ?_
  refine at_seq rfl fun K6 hK6 => ?_
  (conv => arg 4; whnf)
  refine fw_region_lit rfl ?_
  simp [go_sem, opsF, opF, upF, Region.wanted, Fr.ev, Fr.put, thenE, inBlockE, Oper.semAt, yieldF, h6, h7, h8, h19, h20, h21, h22, h23, h24, h25, N1, N2, N3, N4]
  refine (check_any P D m d w4 hP hD hm hd).on ?_
  rintro _ w5 ⟨rfl, hw5⟩
  have hb5 := hb4.frm hw5 (fun h => h)
  have hW5 := New.trans hW4 hw5
  try simp [go_sem, opsF, opF, upF, Region.wanted, Fr.ev, Fr.put, thenE, inBlockE, Oper.semAt, yieldF, h6, h7, h8, h19, h20, h21, h22, h23, h24, h25]
  refine on_kf hK6 [(6, _), (7, _), (8, _), (19, _), (20, _), (21, _), (22, _), (23, _), (24, _), (25, _), (86, _)] (fa_cons h6 (fa_cons h7 (fa_cons h8 (fa_cons h19 (fa_cons h20 (fa_cons h21 (fa_cons h22 (fa_cons h23 (fa_cons h24 (fa_cons h25 (fa_cons (by simp [h6, h7, h8, h19, h20, h21, h22, h23, h24, h25] <;> rfl) fa_nil))))))))))) hds ?_
  clear hK6 h6 h7 h8 h19 h20 h21 h22 h23 h24 h25 hds; intro s hs hds
  obtain ⟨h6, h7, h8, h19, h20, h21, h22, h23, h24, h25, h86⟩ := facts11 hs; clear hs
  refine at_false 86 rfl h86 ?_
  refine at_skip rfl ?_
  try simp only [inBlockE, thenE]
  refine hK5 _ _ ?_
  clear hK5
  refine at_seq rfl fun K7 hK7 => ?_
  (conv => arg 4; whnf)
  refine fw_region_lit rfl ?_
  simp [go_sem, opsF, opF, upF, Region.wanted, Fr.ev, Fr.put, thenE, inBlockE, Oper.semAt, yieldF, h6, h7, h8, h19, h20, h21, h22, h23, h24, h25, h86]
  refine on_kf hK7 [(6, _), (7, _), (8, _), (19, _), (20, _), (21, _), (22, _), (23, _), (24, _), (25, _), (26, _), (27, _)] (fa_cons h6 (fa_cons h7 (fa_cons h8 (fa_cons h19 (fa_cons h20 (fa_cons h21 (fa_cons h22 (fa_cons h23 (fa_cons h24 (fa_cons h25 (fa_cons (by simp [h6, h7, h8, h19, h20, h21, h22, h23, h24, h25, h86] <;> rfl) (fa_cons (by simp [h6, h7, h8, h19, h20, h21, h22, h23, h24, h25, h86] <;> rfl) fa_nil)))))))))))) hds ?_
  clear hK7 h6 h7 h8 h19 h20 h21 h22 h23 h24 h25 h86 hds; intro s hs hds
  obtain ⟨h6, h7, h8, h19, h20, h21, h22, h23, h24, h25, h26, h27⟩ := facts12 hs; clear hs
  refine at_seq rfl fun K8 hK8 => ?_
  refine at_seq rfl fun K9 hK9 => ?_
  (conv => arg 4; whnf)
  refine fw_region_lit rfl ?_
  simp [go_sem, opsF, opF, upF, Region.wanted, Fr.ev, Fr.put, thenE, inBlockE, Oper.semAt, yieldF, h6, h7, h8, h19, h20, h21, h22, h23, h24, h25, h26, h27]
  refine on_kf hK9 [(6, _), (7, _), (8, _), (19, _), (20, _), (21, _), (22, _), (23, _), (24, _), (25, _), (26, _), (27, _), (87, _)] (fa_cons h6 (fa_cons h7 (fa_cons h8 (fa_cons h19 (fa_cons h20 (fa_cons h21 (fa_cons h22 (fa_cons h23 (fa_cons h24 (fa_cons h25 (fa_cons h26 (fa_cons h27 (fa_cons (by simp [h6, h7, h8, h19, h20, h21, h22, h23, h24, h25, h26, h27] <;> rfl) fa_nil))))))))))))) hds ?_
  clear hK9 h6 h7 h8 h19 h20 h21 h22 h23 h24 h25 h26 h27 hds; intro s hs hds
  obtain ⟨h6, h7, h8, h19, h20, h21, h22, h23, h24, h25, h26, h27, h87⟩ := facts13 hs; clear hs
  generalize a4 % 200 = x at *
  generalize a5 % 200 = y at *
  refine loop1 s w5 _ _ bt x y P D m d e1 e2 e3 a6 a7 a8 ⟨h6, h7, h8, h19, h20, h21, h22, h23, h24, h25, hds⟩ h26 h27 h87 hb5 hP hD hm hd hx hy ?_
  clear h6 h7 h8 h19 h20 h21 h22 h23 h24 h25 h26 h27 h87 hds s
  rintro s w6 ⟨h6, h7, h8, h19, h20, h21, h22, h23, h24, h25, hds⟩ h26 h27 hw6
  refine hK8 _ _ ?_
  clear hK8
  refine at_seq rfl fun K10 hK10 => ?_
  refine seg33 s w6 _ _ bt x y P D m d e1 e2 e3 a6 a7 a8 ⟨h6, h7, h8, h19, h20, h21, h22, h23, h24, h25, hds⟩ h26 h27 hwin hxp ?_
  clear h6 h7 h8 h19 h20 h21 h22 h23 h24 h25 h26 h27 hds s
  rintro s ⟨h6, h7, h8, h19, h20, h21, h22, h23, h24, h25, hds⟩
  have hW6 := New.trans hW5 hw6
  refine hK10 _ _ ?_
  clear hK10
  have u6 : IntKind.u8.wrap (a6 % 60) = a6 % 60 := IntWalk.u8_in _ (by omega)
  have u7 : IntKind.u8.wrap (a7 % 60) = a7 % 60 := IntWalk.u8_in _ (by omega)
  have v6 : IntKind.i64.wrap (a6 % 60) = a6 % 60 := IntWalk.i64_in _ (by omega)
  have v7 : IntKind.i64.wrap (a7 % 60) = a7 % 60 := IntWalk.i64_in _ (by omega)
  have u8 : IntKind.u8.wrap (a8 % 40) = a8 % 40 := IntWalk.u8_in _ (by omega)
  have v8 : IntKind.i64.wrap (a8 % 40) = a8 % 40 := IntWalk.i64_in _ (by omega)
  refine at_seq rfl fun K11 hK11 => ?_
  (conv => arg 4; whnf)
  refine fw_region_lit rfl ?_
  simp [go_sem, opsF, opF, upF, Region.wanted, Fr.ev, Fr.put, thenE, inBlockE, Oper.semAt, yieldF, h6, h7, h8, h20, h21, m6, m7, u6, u7, v6, v7]
  refine on_kf hK11 [(8, _), (20, _), (21, _), (43, _), (44, _)] (fa_cons h8 (fa_cons h20 (fa_cons h21 (fa_cons (by simp [h6, h7, h8, h20, h21] <;> rfl) (fa_cons (by simp [h6, h7, h8, h20, h21] <;> rfl) fa_nil))))) hds ?_
  clear hK11 h6 h7 h8 h20 h21 hds; intro s hs hds
  obtain ⟨h8, h20, h21, h43, h44⟩ := facts5 hs; clear hs
  generalize a6 % 60 = low at *
  generalize a7 % 60 = most at *
  refine at_seq rfl fun K12 hK12 => ?_
  (conv => arg 4; whnf)
  refine fw_region_lit rfl ?_
  simp [go_sem, opsF, opF, upF, Region.wanted, Fr.ev, Fr.put, thenE, inBlockE, Oper.semAt, yieldF, h8, h20, h21, h43, h44]
  refine on_kf hK12 [(8, _), (20, _), (21, _), (43, _), (44, _), (45, _), (46, _)] (fa_cons h8 (fa_cons h20 (fa_cons h21 (fa_cons h43 (fa_cons h44 (fa_cons (by simp [h8, h20, h21, h43, h44] <;> rfl) (fa_cons (by simp [h8, h20, h21, h43, h44] <;> rfl) fa_nil))))))) hds ?_
  clear hK12 h8 h20 h21 h43 h44 hds; intro s hs hds
  obtain ⟨h8, h20, h21, h43, h44, h45, h46⟩ := facts7 hs; clear hs
  obtain ⟨n, hn8⟩ : ∃ n : Nat, a8 % 40 + 1 = (n : Int) := ⟨(a8 % 40 + 1).toNat, by omega⟩
  have v9 : IntKind.i64.wrap (n : Int) = (n : Int) := IntWalk.i64_in _ (by omega)
  by_cases hf : 1 ≤ low ∧ low ≤ most
  · have f1 := hf.1
    have f2 := hf.2
    have hwb : wbad low most = 0 := by unfold wbad; rw [if_pos (by omega)]
    refine at_seq rfl fun K13 hK13 => ?_
    (conv => arg 4; whnf)
    refine fw_region_lit rfl ?_
    simp [go_sem, opsF, opF, upF, Region.wanted, Fr.ev, Fr.put, thenE, inBlockE, Oper.semAt, yieldF, h8, h20, h21, h43, h44, h45, h46, f1, f2]
    refine on_kf hK13 [(8, _), (20, _), (21, _), (43, _), (44, _), (45, _), (46, _), (47, .bool true)] (fa_cons h8 (fa_cons h20 (fa_cons h21 (fa_cons h43 (fa_cons h44 (fa_cons h45 (fa_cons h46 (fa_cons (by simp [h8, h20, h21, h43, h44, h45, h46]) fa_nil)))))))) hds ?_
    clear hK13 h8 h20 h21 h43 h44 h45 h46 hds; intro s hs hds
    obtain ⟨h8, h20, h21, h43, h44, h45, h46, h47⟩ := facts8 hs; clear hs
    refine at_seq rfl fun K14 hK14 => ?_
    refine at_seq rfl fun K15 hK15 => ?_
    (conv => arg 4; whnf)
    refine fw_region_lit rfl ?_
    simp [go_sem, opsF, opF, upF, Region.wanted, Fr.ev, Fr.put, thenE, inBlockE, Oper.semAt, yieldF, h8, h20, h21, h43, h44, h45, h46, h47]
    refine (wcheck_any low most w6).on ?_
    rintro _ w7 ⟨rfl, hw7⟩
    rw [hwb]
    try simp [go_sem, opsF, opF, upF, Region.wanted, Fr.ev, Fr.put, thenE, inBlockE, Oper.semAt, yieldF, h8, h20, h21, h43, h44, h45, h46, h47]
    refine on_kf hK15 [(8, _), (20, _), (21, _), (43, _), (44, _), (45, _), (46, _), (47, _), (251, .bool false)] (fa_cons h8 (fa_cons h20 (fa_cons h21 (fa_cons h43 (fa_cons h44 (fa_cons h45 (fa_cons h46 (fa_cons h47 (fa_cons (by simp [h8, h20, h21, h43, h44, h45, h46, h47]) fa_nil))))))))) hds ?_
    clear hK15 h8 h20 h21 h43 h44 h45 h46 h47 hds; intro s hs hds
    obtain ⟨h8, h20, h21, h43, h44, h45, h46, h47, h251⟩ := facts9 hs; clear hs
    refine at_false 251 rfl h251 ?_
    refine at_skip rfl ?_
    try simp only [inBlockE, thenE]
    refine hK14 _ _ ?_
    clear hK14
    refine at_seq rfl fun K16 hK16 => ?_
    refine at_seq rfl fun K17 hK17 => ?_
    (conv => arg 4; whnf)
    refine fw_region_lit rfl ?_
    simp [go_sem, opsF, opF, upF, Region.wanted, Fr.ev, Fr.put, thenE, inBlockE, Oper.semAt, yieldF, h8, h20, h21, h43, h44, h45, h46, h47, h251, m8, u8, v8, v9, hn8]
    refine on_kf hK17 [(20, _), (21, _), (43, _), (44, _), (45, _), (46, _), (47, _), (255, _), (256, _)] (fa_cons h20 (fa_cons h21 (fa_cons h43 (fa_cons h44 (fa_cons h45 (fa_cons h46 (fa_cons h47 (fa_cons (by simp [h8, h20, h21, h43, h44, h45, h46, h47, h251, m8, u8, v8, v9, hn8] <;> rfl) (fa_cons (by simp [h8, h20, h21, h43, h44, h45, h46, h47, h251, m8, u8, v8, v9, hn8] <;> rfl) fa_nil))))))))) hds ?_
    clear hK17 h8 h20 h21 h43 h44 h45 h46 h47 h251 hds; intro s hs hds
    obtain ⟨h20, h21, h43, h44, h45, h46, h47, h255, h256⟩ := facts9 hs; clear hs
    refine loop2 s w7 _ _ x y low most n ⟨h20, h21, h43, h44, h47, h255, hds⟩ h256 h45 h46 hf (by omega) (by omega) hy ?_
    clear h20 h21 h43 h44 h47 h255 hds h45 h46 h256 s
    rintro s w8 ⟨h20, h21, h43, h44, h47, h255, hds⟩ hw8
    refine hK16 _ _ ?_
    clear hK16
    refine at_seq rfl fun K18 hK18 => ?_
    refine at_seq rfl fun K19 hK19 => ?_
    (conv => arg 4; whnf)
    refine fw_region_lit rfl ?_
    simp [go_sem, opsF, opF, upF, Region.wanted, Fr.ev, Fr.put, thenE, inBlockE, Oper.semAt, yieldF, h20, h21, h43, h44, h47, h255]
    refine on_kf hK19 [(20, _), (21, _), (43, _), (44, _), (47, _), (255, _), (343, _)] (fa_cons h20 (fa_cons h21 (fa_cons h43 (fa_cons h44 (fa_cons h47 (fa_cons h255 (fa_cons (by simp [h20, h21, h43, h44, h47, h255] <;> rfl) fa_nil))))))) hds ?_
    clear hK19 h20 h21 h43 h44 h47 h255 hds; intro s hs hds
    obtain ⟨h20, h21, h43, h44, h47, h255, h343⟩ := facts7 hs; clear hs
    refine at_true 343 rfl h343 ?_
    refine seg64 s w8 _ _ x y low most n ⟨h20, h21, h43, h44, h47, h255, hds⟩ hf (by omega) ?_
    clear h20 h21 h43 h44 h47 h255 h343 hds s
    rintro s w9 ⟨h20, h21, h43, h44, h47, h255, hds⟩ hw9
    refine hK18 _ _ ?_
    clear hK18
    refine at_seq rfl fun K20 hK20 => ?_
    (conv => arg 4; whnf)
    refine fw_region_lit rfl ?_
    simp [go_sem, opsF, opF, upF, Region.wanted, Fr.ev, Fr.put, thenE, inBlockE, Oper.semAt, yieldF, h20, h21]
    refine (passed_any x y w9).on ?_
    rintro _ w10 ⟨rfl, rfl⟩
    try simp [go_sem, opsF, opF, upF, Region.wanted, Fr.ev, Fr.put, thenE, inBlockE, Oper.semAt, yieldF, h20, h21]
    refine on_kf hK20 [(18, _)] (fa_cons (by simp [h20, h21] <;> rfl) fa_nil) hds ?_
    clear hK20 h20 h21 hds; intro s hs hds
    have h18 : s.t 18 = _ := hs (18, _) (List.mem_singleton_self _); clear hs
    refine at_ret rfl ?_
    try simp only [inBlockE, thenE]
    refine ret_one rfl hds ⟨by rw [h18], New.trans (New.trans hW6 hw7) (New.trans hw8 hw9)⟩
  · have hwb : wbad low most = 3 := by unfold wbad; rw [if_neg (by omega)]
    by_cases f1 : 1 ≤ low
    · have f2 : ¬ low ≤ most := by omega
      refine at_seq rfl fun K21 hK21 => ?_
      (conv => arg 4; whnf)
      refine fw_region_lit rfl ?_
      simp [go_sem, opsF, opF, upF, Region.wanted, Fr.ev, Fr.put, thenE, inBlockE, Oper.semAt, yieldF, h8, h20, h21, h43, h44, h45, h46, f1, f2]
      refine on_kf hK21 [(8, _), (20, _), (21, _), (43, _), (44, _), (45, _), (46, _), (47, .bool false)] (fa_cons h8 (fa_cons h20 (fa_cons h21 (fa_cons h43 (fa_cons h44 (fa_cons h45 (fa_cons h46 (fa_cons (by simp [h8, h20, h21, h43, h44, h45, h46]) fa_nil)))))))) hds ?_
      clear hK21 h8 h20 h21 h43 h44 h45 h46 hds; intro s hs hds
      obtain ⟨h8, h20, h21, h43, h44, h45, h46, h47⟩ := facts8 hs; clear hs
      refine at_seq rfl fun K22 hK22 => ?_
      refine at_seq rfl fun K23 hK23 => ?_
      (conv => arg 4; whnf)
      refine fw_region_lit rfl ?_
      simp [go_sem, opsF, opF, upF, Region.wanted, Fr.ev, Fr.put, thenE, inBlockE, Oper.semAt, yieldF, h8, h20, h21, h43, h44, h45, h46, h47]
      refine (wcheck_any low most w6).on ?_
      rintro _ w7 ⟨rfl, hw7⟩
      rw [hwb]
      try simp [go_sem, opsF, opF, upF, Region.wanted, Fr.ev, Fr.put, thenE, inBlockE, Oper.semAt, yieldF, h8, h20, h21, h43, h44, h45, h46, h47]
      refine on_kf hK23 [(8, _), (20, _), (21, _), (43, _), (44, _), (45, _), (46, _), (47, _), (251, .bool false)] (fa_cons h8 (fa_cons h20 (fa_cons h21 (fa_cons h43 (fa_cons h44 (fa_cons h45 (fa_cons h46 (fa_cons h47 (fa_cons (by simp [h8, h20, h21, h43, h44, h45, h46, h47]) fa_nil))))))))) hds ?_
      clear hK23 h8 h20 h21 h43 h44 h45 h46 h47 hds; intro s hs hds
      obtain ⟨h8, h20, h21, h43, h44, h45, h46, h47, h251⟩ := facts9 hs; clear hs
      refine at_false 251 rfl h251 ?_
      refine at_skip rfl ?_
      try simp only [inBlockE, thenE]
      refine hK22 _ _ ?_
      clear hK22
      refine at_seq rfl fun K24 hK24 => ?_
      refine at_seq rfl fun K25 hK25 => ?_
      (conv => arg 4; whnf)
      refine fw_region_lit rfl ?_
      simp [go_sem, opsF, opF, upF, Region.wanted, Fr.ev, Fr.put, thenE, inBlockE, Oper.semAt, yieldF, h8, h20, h21, h43, h44, h45, h46, h47, h251, m8, u8, v8, v9, hn8]
      refine on_kf hK25 [(20, _), (21, _), (43, _), (44, _), (45, _), (46, _), (47, _), (255, _), (256, _)] (fa_cons h20 (fa_cons h21 (fa_cons h43 (fa_cons h44 (fa_cons h45 (fa_cons h46 (fa_cons h47 (fa_cons (by simp [h8, h20, h21, h43, h44, h45, h46, h47, h251, m8, u8, v8, v9, hn8] <;> rfl) (fa_cons (by simp [h8, h20, h21, h43, h44, h45, h46, h47, h251, m8, u8, v8, v9, hn8] <;> rfl) fa_nil))))))))) hds ?_
      clear hK25 h8 h20 h21 h43 h44 h45 h46 h47 h251 hds; intro s hs hds
      obtain ⟨h20, h21, h43, h44, h45, h46, h47, h255, h256⟩ := facts9 hs; clear hs
      refine loop3 s w7 _ _ x y low most n ⟨h20, h21, h43, h44, h47, h255, hds⟩ h256 hf (by omega) (by omega) ?_
      clear h20 h21 h43 h44 h47 h255 hds h45 h46 h256 s
      rintro s w8 ⟨h20, h21, h43, h44, h47, h255, hds⟩ hw8
      refine hK24 _ _ ?_
      clear hK24
      refine at_seq rfl fun K26 hK26 => ?_
      refine at_seq rfl fun K27 hK27 => ?_
      (conv => arg 4; whnf)
      refine fw_region_lit rfl ?_
      simp [go_sem, opsF, opF, upF, Region.wanted, Fr.ev, Fr.put, thenE, inBlockE, Oper.semAt, yieldF, h20, h21, h43, h44, h47]
      refine on_kf hK27 [(20, _), (21, _), (43, _), (44, _), (343, _)] (fa_cons h20 (fa_cons h21 (fa_cons h43 (fa_cons h44 (fa_cons (by simp [h20, h21, h43, h44, h47] <;> rfl) fa_nil))))) hds ?_
      clear hK27 h20 h21 h43 h44 h47 hds; intro s hs hds
      obtain ⟨h20, h21, h43, h44, h343⟩ := facts5 hs; clear hs
      refine at_false 343 rfl h343 ?_
      refine at_skip rfl ?_
      try simp only [inBlockE, thenE]
      refine hK26 _ _ ?_
      clear hK26
      refine at_seq rfl fun K28 hK28 => ?_
      (conv => arg 4; whnf)
      refine fw_region_lit rfl ?_
      simp [go_sem, opsF, opF, upF, Region.wanted, Fr.ev, Fr.put, thenE, inBlockE, Oper.semAt, yieldF, h20, h21, h43, h44, h343]
      refine (passed_any x y w8).on ?_
      rintro _ w10 ⟨rfl, rfl⟩
      try simp [go_sem, opsF, opF, upF, Region.wanted, Fr.ev, Fr.put, thenE, inBlockE, Oper.semAt, yieldF, h20, h21, h43, h44, h343]
      refine on_kf hK28 [(18, _)] (fa_cons (by simp [h20, h21, h43, h44, h343] <;> rfl) fa_nil) hds ?_
      clear hK28 h20 h21 h43 h44 h343 hds; intro s hs hds
      have h18 : s.t 18 = _ := hs (18, _) (List.mem_singleton_self _); clear hs
      refine at_ret rfl ?_
      try simp only [inBlockE, thenE]
      refine ret_one rfl hds ⟨by rw [h18], New.trans (New.trans hW6 hw7) hw8⟩
    · refine at_seq rfl fun K29 hK29 => ?_
      (conv => arg 4; whnf)
      refine fw_region_lit rfl ?_
      simp [go_sem, opsF, opF, upF, Region.wanted, Fr.ev, Fr.put, thenE, inBlockE, Oper.semAt, yieldF, h8, h20, h21, h43, h44, h45, h46, f1]
      refine on_kf hK29 [(8, _), (20, _), (21, _), (43, _), (44, _), (45, _), (46, _), (47, .bool false)] (fa_cons h8 (fa_cons h20 (fa_cons h21 (fa_cons h43 (fa_cons h44 (fa_cons h45 (fa_cons h46 (fa_cons (by simp [h8, h20, h21, h43, h44, h45, h46]) fa_nil)))))))) hds ?_
      clear hK29 h8 h20 h21 h43 h44 h45 h46 hds; intro s hs hds
      obtain ⟨h8, h20, h21, h43, h44, h45, h46, h47⟩ := facts8 hs; clear hs
      refine at_seq rfl fun K30 hK30 => ?_
      refine at_seq rfl fun K31 hK31 => ?_
      (conv => arg 4; whnf)
      refine fw_region_lit rfl ?_
      simp [go_sem, opsF, opF, upF, Region.wanted, Fr.ev, Fr.put, thenE, inBlockE, Oper.semAt, yieldF, h8, h20, h21, h43, h44, h45, h46, h47]
      refine (wcheck_any low most w6).on ?_
      rintro _ w7 ⟨rfl, hw7⟩
      rw [hwb]
      try simp [go_sem, opsF, opF, upF, Region.wanted, Fr.ev, Fr.put, thenE, inBlockE, Oper.semAt, yieldF, h8, h20, h21, h43, h44, h45, h46, h47]
      refine on_kf hK31 [(8, _), (20, _), (21, _), (43, _), (44, _), (45, _), (46, _), (47, _), (251, .bool false)] (fa_cons h8 (fa_cons h20 (fa_cons h21 (fa_cons h43 (fa_cons h44 (fa_cons h45 (fa_cons h46 (fa_cons h47 (fa_cons (by simp [h8, h20, h21, h43, h44, h45, h46, h47]) fa_nil))))))))) hds ?_
      clear hK31 h8 h20 h21 h43 h44 h45 h46 h47 hds; intro s hs hds
      obtain ⟨h8, h20, h21, h43, h44, h45, h46, h47, h251⟩ := facts9 hs; clear hs
      refine at_false 251 rfl h251 ?_
      refine at_skip rfl ?_
      try simp only [inBlockE, thenE]
      refine hK30 _ _ ?_
      clear hK30
      refine at_seq rfl fun K32 hK32 => ?_
      refine at_seq rfl fun K33 hK33 => ?_
      (conv => arg 4; whnf)
      refine fw_region_lit rfl ?_
      simp [go_sem, opsF, opF, upF, Region.wanted, Fr.ev, Fr.put, thenE, inBlockE, Oper.semAt, yieldF, h8, h20, h21, h43, h44, h45, h46, h47, h251, m8, u8, v8, v9, hn8]
      refine on_kf hK33 [(20, _), (21, _), (43, _), (44, _), (45, _), (46, _), (47, _), (255, _), (256, _)] (fa_cons h20 (fa_cons h21 (fa_cons h43 (fa_cons h44 (fa_cons h45 (fa_cons h46 (fa_cons h47 (fa_cons (by simp [h8, h20, h21, h43, h44, h45, h46, h47, h251, m8, u8, v8, v9, hn8] <;> rfl) (fa_cons (by simp [h8, h20, h21, h43, h44, h45, h46, h47, h251, m8, u8, v8, v9, hn8] <;> rfl) fa_nil))))))))) hds ?_
      clear hK33 h8 h20 h21 h43 h44 h45 h46 h47 h251 hds; intro s hs hds
      obtain ⟨h20, h21, h43, h44, h45, h46, h47, h255, h256⟩ := facts9 hs; clear hs
      refine loop3 s w7 _ _ x y low most n ⟨h20, h21, h43, h44, h47, h255, hds⟩ h256 hf (by omega) (by omega) ?_
      clear h20 h21 h43 h44 h47 h255 hds h45 h46 h256 s
      rintro s w8 ⟨h20, h21, h43, h44, h47, h255, hds⟩ hw8
      refine hK32 _ _ ?_
      clear hK32
      refine at_seq rfl fun K34 hK34 => ?_
      refine at_seq rfl fun K35 hK35 => ?_
      (conv => arg 4; whnf)
      refine fw_region_lit rfl ?_
      simp [go_sem, opsF, opF, upF, Region.wanted, Fr.ev, Fr.put, thenE, inBlockE, Oper.semAt, yieldF, h20, h21, h43, h44, h47]
      refine on_kf hK35 [(20, _), (21, _), (43, _), (44, _), (343, _)] (fa_cons h20 (fa_cons h21 (fa_cons h43 (fa_cons h44 (fa_cons (by simp [h20, h21, h43, h44, h47] <;> rfl) fa_nil))))) hds ?_
      clear hK35 h20 h21 h43 h44 h47 hds; intro s hs hds
      obtain ⟨h20, h21, h43, h44, h343⟩ := facts5 hs; clear hs
      refine at_false 343 rfl h343 ?_
      refine at_skip rfl ?_
      try simp only [inBlockE, thenE]
      refine hK34 _ _ ?_
      clear hK34
      refine at_seq rfl fun K36 hK36 => ?_
      (conv => arg 4; whnf)
      refine fw_region_lit rfl ?_
      simp [go_sem, opsF, opF, upF, Region.wanted, Fr.ev, Fr.put, thenE, inBlockE, Oper.semAt, yieldF, h20, h21, h43, h44, h343]
      refine (passed_any x y w8).on ?_
      rintro _ w10 ⟨rfl, rfl⟩
      try simp [go_sem, opsF, opF, upF, Region.wanted, Fr.ev, Fr.put, thenE, inBlockE, Oper.semAt, yieldF, h20, h21, h43, h44, h343]
      refine on_kf hK36 [(18, _)] (fa_cons (by simp [h20, h21, h43, h44, h343] <;> rfl) fa_nil) hds ?_
      clear hK36 h20 h21 h43 h44 h343 hds; intro s hs hds
      have h18 : s.t 18 = _ := hs (18, _) (List.mem_singleton_self _); clear hs
      refine at_ret rfl ?_
      try simp only [inBlockE, thenE]
      refine ret_one rfl hds ⟨by rw [h18], New.trans (New.trans hW6 hw7) hw8⟩
end Go.Proofs.Ytiejaopidkghdab
