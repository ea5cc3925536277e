/- The law behind its calls: pairs, plan, end. -/
import Derived.Test.YtiejaopidkghdacPs
namespace Go.Proofs.Ytiejaopidkghdac
set_option linter.unusedSimpArgs false
set_option linter.unusedVariables false
open Go.RowKit Go.Lf

set_option maxHeartbeats 4000000 in
theorem law_plan (s : Fr) (w0 w : World) (low high : Int) (pv : Value) (ps : List (Int × Int)) (g1 : 1 ≤ low) (g2 : low < high) (g3 : high ≤ 400) (hP : PR w0 w pv ps) (hl : ps.length ≤ 5000)
    (hds : s.ds = []) (h11 : s.t 11 = .int .i64 low) (h12 : s.t 12 = .int .i64 high) (h29 : s.t 29 = pv) :
    FW Try.prog 448 none (sub body3 [1,1,1,1,1,1,1,1,1,1]) (postF Try.prog Try.f3 fun v w' => v = .bool true ∧ New w0 w') s w := by
  obtain ⟨pa, pc, rfl⟩ : ∃ ad cap, pv = .slice ad ps.length cap := by
    rcases hP.row.val with ⟨h, h', _⟩ | ⟨g, cap, h, _⟩
    · exact ⟨none, 0, by rw [h, h']⟩
    · exact ⟨_, cap, h⟩
  have hA4 := Frm.alloc (fun _ => False) w (.map #[] 0)
  have hmp := mapIs_new Try.prog 39 w
  have hmk := run_makeMap (P := Try.prog) 40 w
  have hP1 := hP.new hA4
  have hsz := hP.nw.size
  generalize w.alloc (.map #[] 0) = w1 at *
  generalize w.heap.size = mb at *
  refine at_seq rfl fun K1 hK1 => ?_
  (conv => arg 4; whnf)
  refine fw_region_lit rfl ?_
  simp [go_sem, opsF, opF, upF, Region.wanted, Fr.ev, Fr.put, thenE, inBlockE, Oper.semAt, yieldF, h11, h12, h29, hmk]
  refine on_kf hK1 [(11, _), (12, _), (29, _), (35, _)] (fa_cons h11 (fa_cons h12 (fa_cons h29 (fa_cons (by simp [h11, h12, h29, hmk] <;> rfl) fa_nil)))) hds ?_
  clear hK1 h11 h12 h29 hds; intro s hs hds
  obtain ⟨h11, h12, h29, h35⟩ := facts4 hs; clear hs
  refine at_seq rfl fun K2 hK2 => ?_
  refine at_seq rfl fun K3 hK3 => ?_
  (conv => arg 4; whnf)
  refine fw_region_lit rfl ?_
  simp [go_sem, opsF, opF, upF, Region.wanted, Fr.ev, Fr.put, thenE, inBlockE, Oper.semAt, yieldF, h11, h12, h29, h35, hmk]
  refine on_kf hK3 [(11, _), (12, _), (29, _), (35, _), (316, _), (317, _), (318, _)] (fa_cons h11 (fa_cons h12 (fa_cons h29 (fa_cons h35 (fa_cons (by simp [h11, h12, h29, h35, hmk] <;> rfl) (fa_cons (by simp [h11, h12, h29, h35, hmk] <;> rfl) (fa_cons (by simp [h11, h12, h29, h35, hmk] <;> rfl) fa_nil))))))) hds ?_
  clear hK3 h11 h12 h29 h35 hds; intro s hs hds
  obtain ⟨h11, h12, h29, h35, h316, h317, h318⟩ := facts7 hs; clear hs
  refine loop_map s w0 w1 _ _ low high mb _ ps hsz (by omega) ⟨0, _, by omega, by omega, by intro a b; simp [holdOf], hP1, hmp, hds, h11, h12, h29, h35, h316, h317, by simpa using h318⟩ ?_
  clear h11 h12 h29 h35 h316 h317 h318 hds
  clear hmk hA4 hmp hP1 hP s
  rintro s w2 ⟨i, F, hi, hi0, hF, hP2, hM2, hds, h11, h12, h29, h35, h316, h317, h318⟩
  have hin : i = ps.length := by omega
  rw [hin, List.take_length] at hF
  refine hK2 _ _ ?_
  clear hK2
  obtain ⟨N, hNm, hN, hlt⟩ := pst_ends (holdOf ps) low high g1 g2 g3
  -- the law's stack, and what is asked for
  have hB1 := Frm.alloc (fun _ => False) w2 (.cells #[.int .i64 high] 3)
  have hr1 := Row.new w2 [.int .i64 high] 3 1 1 rfl (by unfold maxLen; omega)
  have hB2 := Frm.alloc (fun _ => False) (w2.alloc (.cells #[.int .i64 high] 3)) (.cells #[.int .i64 high] 3)
  have hr2 := Row.new (w2.alloc (.cells #[.int .i64 high] 3)) [.int .i64 high] 3 1 1 rfl (by unfold maxLen; omega)
  have hr1' := hr1.frm hB2 (fun _ _ h => h)
  have hn2 := New.trans hB1 hB2
  have hs2 := hP2.nw.size
  have hT : TL w0 ((w2.alloc (.cells #[.int .i64 high] 3)).alloc (.cells #[.int .i64 high] 3)) mb F (.slice pa ps.length pc) ps (.slice (some ⟨w2.heap.size, 0, none⟩) 1 1) (.slice (some ⟨w2.heap.size + 1, 0, none⟩) 1 1) (.slice none 0 0) [high] [high] [] := by
    simp only [World.size_alloc] at hr2
    refine ⟨hP2.new hn2, hM2.frm hn2 (fun h => h), hr1', hr2, Row.nil _ _ _, ?_, ?_⟩
    · intro k hk e
      cases hk
      simp [Value.ownBlock] at e
    · rintro k (e | e | e)
      · cases e; exact hs2
      · cases e; show w0.heap.size ≤ w2.heap.size + 1; omega
      · cases e
  refine at_seq rfl fun K4 hK4 => ?_
  (conv => arg 4; whnf)
  refine fw_region_lit rfl ?_
  simp [go_sem, opsF, opF, upF, Region.wanted, Fr.ev, Fr.put, thenE, inBlockE, Oper.semAt, yieldF, h11, h12, h29, h35]
  refine on_kf hK4 [(11, _), (12, _), (15, _), (16, _), (29, _), (35, _)] (fa_cons h11 (fa_cons h12 (fa_cons (by simp [h11, h12, h29, h35] <;> rfl) (fa_cons (by simp [h11, h12, h29, h35] <;> rfl) (fa_cons h29 (fa_cons h35 fa_nil)))))) hds ?_
  clear hK4 h11 h12 h29 h35 hds; intro s hs hds
  obtain ⟨h11, h12, h15, h16, h29, h35⟩ := facts6 hs; clear hs
  refine at_seq rfl fun K5 hK5 => ?_
  (conv => arg 4; whnf)
  refine fw_region_lit rfl ?_
  simp [go_sem, opsF, opF, upF, Region.wanted, Fr.ev, Fr.put, thenE, inBlockE, Oper.semAt, yieldF, h11, h12, h15, h16, h29, h35]
  refine on_kf hK5 [(11, _), (12, _), (15, _), (16, _), (29, _), (35, _), (38, _), (39, _)] (fa_cons h11 (fa_cons h12 (fa_cons h15 (fa_cons h16 (fa_cons h29 (fa_cons h35 (fa_cons (by simp [h11, h12, h15, h16, h29, h35] <;> rfl) (fa_cons (by simp [h11, h12, h15, h16, h29, h35] <;> rfl) fa_nil)))))))) hds ?_
  clear hK5 h11 h12 h15 h16 h29 h35 hds; intro s hs hds
  obtain ⟨h11, h12, h15, h16, h29, h35, h38, h39⟩ := facts8 hs; clear hs
  refine at_seq rfl fun K6 hK6 => ?_
  (conv => arg 4; whnf)
  refine fw_region_lit rfl ?_
  simp [go_sem, opsF, opF, upF, Region.wanted, Fr.ev, Fr.put, thenE, inBlockE, Oper.semAt, yieldF, h11, h12, h15, h16, h29, h35, h38, h39]
  refine on_kf hK6 [(11, _), (12, _), (15, _), (16, _), (29, _), (35, _), (38, _), (39, _), (40, _)] (fa_cons h11 (fa_cons h12 (fa_cons h15 (fa_cons h16 (fa_cons h29 (fa_cons h35 (fa_cons h38 (fa_cons h39 (fa_cons (by simp [h11, h12, h15, h16, h29, h35, h38, h39] <;> rfl) fa_nil))))))))) hds ?_
  clear hK6 h11 h12 h15 h16 h29 h35 h38 h39 hds; intro s hs hds
  obtain ⟨h11, h12, h15, h16, h29, h35, h38, h39, h40⟩ := facts9 hs; clear hs
  refine at_seq rfl fun K7 hK7 => ?_
  refine loop_plan s w0 _ _ _ mb F _ ps (holdOf ps) low high N g1 g2 g3 hN hlt hNm hF ⟨0, _, _, _, by omega, by omega, hT, hds, h11, h12, h15, h16, h29, h35, h38, h39, h40⟩ ?_
  clear h11 h12 h15 h16 h29 h35 h38 h39 h40 hds
  clear hT hB1 hr1 hB2 hr2 hr1' hn2 hs2 hP2 hM2 s
  rintro s w3 sv av tv l hT hds h11 h12 h29 h38 h39 h40
  refine hK7 _ _ ?_
  clear hK7
  refine at_seq rfl fun K8 hK8 => ?_
  (conv => arg 4; whnf)
  refine fw_region_lit rfl ?_
  refine ops_take 3 fun KO hKO => ?_
  simp [go_sem, opsF, opF, upF, Region.wanted, Fr.ev, Fr.put, thenE, inBlockE, Oper.semAt, yieldF, h11, h12, h29, h38, h39, h40]
  refine hKO _ _ ?_
  clear hKO
  simp only [List.drop_succ_cons, List.drop_zero]
  refine ops_call rfl rfl rfl call15 (by simp [Fr.ev, h11, h12, h29, h38, h39, h40] <;> rfl) ?_
  refine (plan_any low high _ ps N w3 g1 g2 g3 hT.pr.row (by omega) hT.pr.ok hN hlt hNm).on ?_
  rintro _ w4 ⟨ov, qv, rfl, hr3, hr4, hn4, ho4⟩
  obtain ⟨n, hn⟩ : ∃ n : Nat, high - low = (n : Int) := ⟨(high - low).toNat, by omega⟩
  have c2 : IntKind.i64.wrap (high - low) = high - low := IntWalk.i64_in _ (by omega)
  have c2' : IntKind.i64.wrap (n : Int) = (n : Int) := IntWalk.i64_in _ (by omega)
  simp [go_sem, opsF, opF, upF, Region.wanted, Fr.ev, Fr.put, thenE, inBlockE, Oper.semAt, yieldF, h11, h12, h29, h38, h39, h40]
  refine on_kf hK8 [(11, _), (12, _), (14, _), (38, _), (39, _), (40, _), (44, _), (45, _), (46, _)] (fa_cons h11 (fa_cons h12 (fa_cons (by simp [h11, h12, h29, h38, h39, h40, c2, hn, c2'] <;> rfl) (fa_cons h38 (fa_cons h39 (fa_cons h40 (fa_cons (by simp [h11, h12, h29, h38, h39, h40, c2, hn, c2'] <;> rfl) (fa_cons (by simp [h11, h12, h29, h38, h39, h40, c2, hn, c2'] <;> rfl) (fa_cons (by simp [h11, h12, h29, h38, h39, h40, c2, hn, c2'] <;> rfl) fa_nil))))))))) hds ?_
  clear hK8 h11 h12 h29 h38 h39 h40 hds; intro s hs hds
  obtain ⟨h11, h12, h14, h38, h39, h40, h44, h45, h46⟩ := facts9 hs; clear hs
  refine at_seq rfl fun K9 hK9 => ?_
  (conv => arg 4; whnf)
  refine fw_region_lit rfl ?_
  simp [go_sem, opsF, opF, upF, Region.wanted, Fr.ev, Fr.put, thenE, inBlockE, Oper.semAt, yieldF, h11, h12, h14, h38, h39, h40, h44, h45, h46, c2, hn, c2']
  refine on_kf hK9 [(11, _), (12, _), (14, _), (38, _), (39, _), (40, _), (44, _), (45, _), (46, _), (47, _)] (fa_cons h11 (fa_cons h12 (fa_cons h14 (fa_cons h38 (fa_cons h39 (fa_cons h40 (fa_cons h44 (fa_cons h45 (fa_cons h46 (fa_cons (by simp [h11, h12, h14, h38, h39, h40, h44, h45, h46, c2, hn, c2'] <;> rfl) fa_nil)))))))))) hds ?_
  clear hK9 h11 h12 h14 h38 h39 h40 h44 h45 h46 hds; intro s hs hds
  obtain ⟨h11, h12, h14, h38, h39, h40, h44, h45, h46, h47⟩ := facts10 hs; clear hs
  refine at_seq rfl fun K10 hK10 => ?_
  refine at_seq rfl fun K11 hK11 => ?_
  (conv => arg 4; whnf)
  refine fw_region_lit rfl ?_
  simp [go_sem, opsF, opF, upF, Region.wanted, Fr.ev, Fr.put, thenE, inBlockE, Oper.semAt, yieldF, h11, h12, h14, h38, h39, h40, h44, h45, h46, h47, c2, hn, c2']
  refine on_kf hK11 [(11, _), (12, _), (14, _), (38, _), (39, _), (40, _), (44, _), (45, _), (46, _), (47, _), (48, _)] (fa_cons h11 (fa_cons h12 (fa_cons h14 (fa_cons h38 (fa_cons h39 (fa_cons h40 (fa_cons h44 (fa_cons h45 (fa_cons h46 (fa_cons h47 (fa_cons (by simp [h11, h12, h14, h38, h39, h40, h44, h45, h46, h47, c2, hn, c2'] <;> rfl) fa_nil))))))))))) hds ?_
  clear hK11 h11 h12 h14 h38 h39 h40 h44 h45 h46 h47 hds; intro s hs hds
  obtain ⟨h11, h12, h14, h38, h39, h40, h44, h45, h46, h47, h48⟩ := facts11 hs; clear hs
  refine loop_deep s w4 _ _ low high tv av ov qv _ n (by omega) (by omega) ⟨h11, h12, h14, h38, h39, h40, h44, h45, h46, hds⟩ h47 h48 ?_
  clear h11 h12 h14 h38 h39 h40 h44 h45 h46 h47 h48 hds
  clear s
  rintro s hs h47
  refine hK10 _ _ ?_
  clear hK10
  refine seg93 s w0 w4 low high tv av ov qv _ n (trysOf (holdOf ps) low high (N + 1)) (asksOf (holdOf ps) low high N) g1 g2 g3 hn hs h47 (New.trans hT.pr.nw hn4) ?_ (hT.rt.frm hn4 (fun _ _ h => h)) hr4 (hT.ra.frm hn4 (fun _ _ h => h))
  rw [trysOf_len]
  exact hr3

set_option maxHeartbeats 4000000 in
theorem law_pairs (s : Fr) (w0 w : World) (low high : Int) (hv : Value) (hs : List (Int × Int)) (sure : Int) (g1 : 1 ≤ low) (g2 : low < high) (g3 : high ≤ 400) (hsu : 0 ≤ sure ∧ sure ≤ 255) (hh : IsU2 w0 hv hs) (hw : New w0 w)
    (hds : s.ds = []) (h3 : s.t 3 = hv) (h4 : s.t 4 = .int .u8 sure) (h11 : s.t 11 = .int .i64 low) (h12 : s.t 12 = .int .i64 high) :
    FW Try.prog 448 none (sub body3 [1,1,1,1,1,1,1]) (postF Try.prog Try.f3 fun v w' => v = .bool true ∧ New w0 w') s w := by
  have hP0 : PR w0 w (.slice none 0 0) [] := ⟨Row.nil _ _ _, hw, fun k hk => (by cases hk), by simp⟩
  refine at_seq rfl fun K12 hK12 => ?_
  (conv => arg 4; whnf)
  refine fw_region_lit rfl ?_
  simp [go_sem, opsF, opF, upF, Region.wanted, Fr.ev, Fr.put, thenE, inBlockE, Oper.semAt, yieldF, h3, h4, h11, h12]
  refine on_kf hK12 [(3, _), (4, _), (11, _), (12, _), (29, _)] (fa_cons h3 (fa_cons h4 (fa_cons h11 (fa_cons h12 (fa_cons (by simp [h3, h4, h11, h12] <;> rfl) fa_nil))))) hds ?_
  clear hK12 h3 h4 h11 h12 hds; intro s hs hds
  obtain ⟨h3, h4, h11, h12, h29⟩ := facts5 hs; clear hs
  refine at_seq rfl fun K13 hK13 => ?_
  have hrest : ∀ (s : Fr) (w : World) (pv : Value) (ps : List (Int × Int)), PR w0 w pv ps → ps.length ≤ 40 → s.ds = [] → s.t 4 = .int .u8 sure → s.t 11 = .int .i64 low → s.t 12 = .int .i64 high → s.t 29 = pv → K13 s w := by
    clear h3 h4 h11 h12 h29 hds
    intro s w pv ps hP hl hds h4 h11 h12 h29
    refine hK13 _ _ ?_
    clear hK13
    refine at_seq rfl fun K14 hK14 => ?_
    have hlast : ∀ (s : Fr) (w : World) (pv : Value) (ps : List (Int × Int)), PR w0 w pv ps → ps.length ≤ 5000 → s.ds = [] → s.t 11 = .int .i64 low → s.t 12 = .int .i64 high → s.t 29 = pv → K14 s w := by
      clear h4 h11 h12 h29 hds
      intro s w pv ps hP hl hds h11 h12 h29
      refine hK14 _ _ ?_
      clear hK14
      exact law_plan s w0 w low high pv ps g1 g2 g3 hP hl hds h11 h12 h29
    have m3 : Int.tmod sure 3 = sure % 3 := Int.tmod_eq_emod_of_nonneg (by omega)
    have u3 : IntKind.u8.wrap (sure % 3) = sure % 3 := IntWalk.u8_in _ (by omega)
    by_cases c : 0 < sure % 3
    · have v1 : IntKind.i64.wrap sure = sure := IntWalk.i64_in _ (by omega)
      have v2 : Int.tdiv sure 3 = sure / 3 := Int.tdiv_eq_ediv_of_nonneg (by omega)
      have v3 : IntKind.i64.wrap (sure / 3) = sure / 3 := IntWalk.i64_in _ (by omega)
      have v4 : Int.tmod (sure / 3) 4 = sure / 3 % 4 := Int.tmod_eq_emod_of_nonneg (by omega)
      have v5 : IntKind.i64.wrap (sure / 3 % 4) = sure / 3 % 4 := IntWalk.i64_in _ (by omega)
      have v6 : 0 ≤ sure / 3 % 4 ∧ sure / 3 % 4 < 4 := by omega
      generalize sure / 3 % 4 = t at *
      have v7 : IntKind.i64.wrap (low + t) = low + t := IntWalk.i64_in _ (by omega)
      refine at_seq rfl fun K15 hK15 => ?_
      (conv => arg 4; whnf)
      refine fw_region_lit rfl ?_
      simp [go_sem, opsF, opF, upF, Region.wanted, Fr.ev, Fr.put, thenE, inBlockE, Oper.semAt, yieldF, h4, h11, h12, h29, m3, u3, c]
      refine on_kf hK15 [(4, _), (11, _), (12, _), (29, _), (286, _)] (fa_cons h4 (fa_cons h11 (fa_cons h12 (fa_cons h29 (fa_cons (by simp [h4, h11, h12, h29, m3, u3, c] <;> rfl) fa_nil))))) hds ?_
      clear hK15 h4 h11 h12 h29 hds; intro s hs hds
      obtain ⟨h4, h11, h12, h29, h286⟩ := facts5 hs; clear hs
      refine at_true 286 rfl h286 ?_
      refine at_seq rfl fun K16 hK16 => ?_
      (conv => arg 4; whnf)
      refine fw_region_lit rfl ?_
      simp [go_sem, opsF, opF, upF, Region.wanted, Fr.ev, Fr.put, thenE, inBlockE, Oper.semAt, yieldF, h4, h11, h12, h29, h286, v1, v2, v3, v4, v5, v7]
      refine on_kf hK16 [(4, _), (11, _), (12, _), (29, _), (33, _)] (fa_cons h4 (fa_cons h11 (fa_cons h12 (fa_cons h29 (fa_cons (by simp [h4, h11, h12, h29, h286, v1, v2, v3, v4, v5, v7] <;> rfl) fa_nil))))) hds ?_
      clear hK16 h4 h11 h12 h29 h286 hds; intro s hs hds
      obtain ⟨h4, h11, h12, h29, h33⟩ := facts5 hs; clear hs
      refine loop_sure s w0 w _ low high sure (high - (low + t)).toNat g1 g2 g3 hsu ⟨low + t, pv, ps, by omega, by omega, rfl, by omega, hP, hds, h4, h11, h12, h29, h33⟩ ?_
      clear h4 h11 h12 h29 h33 hds
      clear s
      rintro s w2 ⟨m, a, pv2, ps2, ha1, ha2, rfl, hlen, hP2, hds, h4, h11, h12, h29, h33⟩
      simp only [inBlockE, thenE]
      exact hlast s w2 pv2 ps2 hP2 (by omega) hds h11 h12 h29
    · refine at_seq rfl fun K17 hK17 => ?_
      (conv => arg 4; whnf)
      refine fw_region_lit rfl ?_
      simp [go_sem, opsF, opF, upF, Region.wanted, Fr.ev, Fr.put, thenE, inBlockE, Oper.semAt, yieldF, h4, h11, h12, h29, m3, u3, c]
      refine on_kf hK17 [(4, _), (11, _), (12, _), (29, _), (286, _)] (fa_cons h4 (fa_cons h11 (fa_cons h12 (fa_cons h29 (fa_cons (by simp [h4, h11, h12, h29, m3, u3, c] <;> rfl) fa_nil))))) hds ?_
      clear hK17 h4 h11 h12 h29 hds; intro s hs hds
      obtain ⟨h4, h11, h12, h29, h286⟩ := facts5 hs; clear hs
      refine at_false 286 rfl h286 ?_
      refine at_skip rfl ?_
      simp only [inBlockE, thenE]
      exact hlast s w pv ps hP (by omega) hds h11 h12 h29
  have hgo : ∀ (k : Nat) (zs : List (Int × Int)) (uv : Value), k ≤ 40 → k ≤ zs.length → (k = 0 ∨ ∃ a cap, uv = .slice (some a) k cap ∧ k ≤ cap ∧ cap ≤ maxLen ∧ ∀ j u, (u2s zs)[j]? = some u → w0.cell? (a.add j) = some u) → (∀ p ∈ zs, U2ok p) → ∀ (K : Fr → World → Prop) (Q : Exit → Fr → World → Prop) (s : Fr),
      (∀ (s : Fr) (w : World) (pv : Value) (ps : List (Int × Int)), PR w0 w pv ps → ps.length ≤ 40 → s.ds = [] → s.t 4 = .int .u8 sure → s.t 11 = .int .i64 low → s.t 12 = .int .i64 high → s.t 29 = pv → K s w) →
      s.ds = [] → s.t 4 = .int .u8 sure → s.t 11 = .int .i64 low → s.t 12 = .int .i64 high → s.t 29 = .slice none 0 0 → s.t 255 = uv → s.t 256 = .int .i64 (k : Int) → s.t 257 = .int .i64 0 → FW Try.prog 448 none (sub body3 [1,0,1,1,1,1,1,1,1,1]) (thenE K Q) s w := by
    clear h3 h4 h11 h12 h29 hds
    intro k zs uv hk hkz hu hok K Q s hK hds h4 h11 h12 h29 h255 h256 h257
    refine loop_holds s w0 w K Q (.int .u8 sure) low high uv k zs g1 g2 g3 hkz hk hu hok ⟨0, _, [], by omega, by omega, by simp, hP0, hds, h4, h11, h12, h29, h255, h256, by simpa using h257⟩ ?_
    rintro s w ⟨i, pv, ps, hi, hi0, hl, hP, hds, h4, h11, h12, h29, _, _, _⟩
    exact hK s w pv ps hP (by omega) hds h4 h11 h12 h29
  rcases hh with ⟨rfl, rfl⟩ | ⟨a, cap, rfl, hcap, hmax, hcell, hok⟩
  · refine at_seq rfl fun K18 hK18 => ?_
    (conv => arg 4; whnf)
    refine fw_region_lit rfl ?_
    simp [go_sem, opsF, opF, upF, Region.wanted, Fr.ev, Fr.put, thenE, inBlockE, Oper.semAt, yieldF, h3, h4, h11, h12, h29]
    refine on_kf hK18 [(4, _), (11, _), (12, _), (29, _), (255, _), (256, _), (257, _)] (fa_cons h4 (fa_cons h11 (fa_cons h12 (fa_cons h29 (fa_cons (by simp [h3, h4, h11, h12, h29] <;> rfl) (fa_cons (by simp [h3, h4, h11, h12, h29] <;> rfl) (fa_cons (by simp [h3, h4, h11, h12, h29] <;> rfl) fa_nil))))))) hds ?_
    clear hK18 h3 h4 h11 h12 h29 hds; intro s hs hds
    obtain ⟨h4, h11, h12, h29, h255, h256, h257⟩ := facts7 hs; clear hs
    exact hgo 0 [] _ (by omega) (by simp) (.inl rfl) (by simp) _ _ s hrest hds h4 h11 h12 h29 h255 h256 h257
  · by_cases h40 : hs.length ≤ 40
    · have d0 : ¬ 40 < (hs.length : Int) := by omega
      refine at_seq rfl fun K19 hK19 => ?_
      (conv => arg 4; whnf)
      refine fw_region_lit rfl ?_
      simp [go_sem, opsF, opF, upF, Region.wanted, Fr.ev, Fr.put, thenE, inBlockE, Oper.semAt, yieldF, h3, h4, h11, h12, h29, d0, hcap]
      refine on_kf hK19 [(4, _), (11, _), (12, _), (29, _), (255, _), (256, _), (257, _)] (fa_cons h4 (fa_cons h11 (fa_cons h12 (fa_cons h29 (fa_cons (by simp [h3, h4, h11, h12, h29, d0, hcap] <;> rfl) (fa_cons (by simp [h3, h4, h11, h12, h29, d0, hcap] <;> rfl) (fa_cons (by simp [h3, h4, h11, h12, h29, d0, hcap] <;> rfl) fa_nil))))))) hds ?_
      clear hK19 h3 h4 h11 h12 h29 hds; intro s hs hds
      obtain ⟨h4, h11, h12, h29, h255, h256, h257⟩ := facts7 hs; clear hs
      exact hgo hs.length hs _ h40 (Nat.le_refl _) (.inr ⟨a, cap, h255, hcap, hmax, hcell⟩) hok _ _ s hrest hds h4 h11 h12 h29 rfl h256 h257
    · have d0 : 40 < (hs.length : Int) := by omega
      have d1 : (40 : Int) ≤ (cap : Int) := by omega
      refine at_seq rfl fun K20 hK20 => ?_
      (conv => arg 4; whnf)
      refine fw_region_lit rfl ?_
      simp [go_sem, opsF, opF, upF, Region.wanted, Fr.ev, Fr.put, thenE, inBlockE, Oper.semAt, yieldF, h3, h4, h11, h12, h29, d0, d1]
      refine on_kf hK20 [(4, _), (11, _), (12, _), (29, _), (255, _), (256, _), (257, _)] (fa_cons h4 (fa_cons h11 (fa_cons h12 (fa_cons h29 (fa_cons (by simp [h3, h4, h11, h12, h29, d0, d1] <;> rfl) (fa_cons (by simp [h3, h4, h11, h12, h29, d0, d1] <;> rfl) (fa_cons (by simp [h3, h4, h11, h12, h29, d0, d1] <;> rfl) fa_nil))))))) hds ?_
      clear hK20 h3 h4 h11 h12 h29 hds; intro s hs hds
      obtain ⟨h4, h11, h12, h29, h255, h256, h257⟩ := facts7 hs; clear hs
      exact hgo 40 hs _ (by omega) (by omega) (.inr ⟨a, cap, h255, by omega, hmax, hcell⟩) hok _ _ s hrest hds h4 h11 h12 h29 rfl h256 h257
end Go.Proofs.Ytiejaopidkghdac
