/- The law's third part: how deep; the end. -/
import Derived.Test.YtiejaopidkghdacPr
namespace Go.Proofs.Ytiejaopidkghdac
set_option linter.unusedSimpArgs false
set_option linter.unusedVariables false
open Go.RowKit Go.Lf

/-- The slots that the law's end reads. -/
structure SE (low high : Int) (tv av gv qv : Value) (d : Bool) (s : Fr) : Prop where
  t11 : s.t 11 = .int .i64 low
  t12 : s.t 12 = .int .i64 high
  t14 : s.t 14 = .int .i64 0
  t38 : s.t 38 = av
  t39 : s.t 39 = .bool d
  t40 : s.t 40 = tv
  t44 : s.t 44 = gv
  t45 : s.t 45 = qv
  t46 : s.t 46 = .bool d
  ds : s.ds = []

def DeI (low high : Int) (tv av gv qv : Value) (d : Bool) (r : Nat) (w0 : World) (m : Nat) (s : Fr) (w : World) : Prop :=
  ∃ (k c : Nat), m = k ∧ 1 ≤ k ∧ k ≤ 1000 ∧ c + (bits (k - 1) + 1) = r ∧ SE low high tv av gv qv d s ∧ s.t 47 = .int .i64 (c : Int) ∧ s.t 48 = .int .i64 (k : Int) ∧ w = w0

set_option maxHeartbeats 4000000 in
theorem loop_deep (s : Fr) (w : World) (K : Fr → World → Prop) (Q : Exit → Fr → World → Prop) (low high : Int) (tv av gv qv : Value) (d : Bool) (n : Nat) (hn : 1 ≤ n) (hn2 : n ≤ 1000)
    (hs : SE low high tv av gv qv d s) (h47 : s.t 47 = .int .i64 0) (h48 : s.t 48 = .int .i64 (n : Int))
    (hK : ∀ s, SE low high tv av gv qv d s → s.t 47 = .int .i64 (deepOf n : Int) → K s w) : FW Try.prog 448 none (sub body3 [1,0,1,1,1,1,1,1,1,1,1,1,1,1,1,1,1,1,1,1]) (thenE K Q) s w := by
  refine at_block 13 rfl ?_
  refine at_loop rfl (DeI low high tv av gv qv d (deepOf n) w) n ⟨n, 0, rfl, hn, hn2, by rw [deepOf, if_neg (by omega)]; omega, hs, h47, h48, rfl⟩ ?_
  clear hs h47 h48 s
  rintro m s w1 ⟨k, c, rfl, hk, hk2, hc, ⟨h11, h12, h14, h38, h39, h40, h44, h45, h46, hds⟩, h47, h48, rfl⟩
  have hdn : deepOf n ≤ 1000 := by
    have := bits_le (n - 1)
    rw [deepOf, if_neg (by omega)]; omega
  have e0 : 0 < m := by omega
  have d1 : IntKind.i64.wrap ((c : Int) + 1) = (c : Int) + 1 := IntWalk.i64_in _ (by omega)
  refine at_seq rfl fun K1 hK1 => ?_
  refine at_seq rfl fun K2 hK2 => ?_
  (conv => arg 4; whnf)
  refine fw_region_lit rfl ?_
  simp [go_sem, opsF, opF, upF, Region.wanted, Fr.ev, Fr.put, thenE, inBlockE, Oper.semAt, yieldF, h11, h12, h14, h38, h39, h40, h44, h45, h46, h47, h48, e0]
  refine on_kf hK2 [(11, _), (12, _), (14, _), (38, _), (39, _), (40, _), (44, _), (45, _), (46, _), (47, _), (48, _), (389, _)] (fa_cons h11 (fa_cons h12 (fa_cons h14 (fa_cons h38 (fa_cons h39 (fa_cons h40 (fa_cons h44 (fa_cons h45 (fa_cons h46 (fa_cons h47 (fa_cons h48 (fa_cons (by simp [h11, h12, h14, h38, h39, h40, h44, h45, h46, h47, h48, e0] <;> rfl) fa_nil)))))))))))) hds ?_
  clear hK2 h11 h12 h14 h38 h39 h40 h44 h45 h46 h47 h48 hds; intro s hs hds
  obtain ⟨h11, h12, h14, h38, h39, h40, h44, h45, h46, h47, h48, h389⟩ := facts12 hs; clear hs
  refine at_true 389 rfl h389 ?_
  by_cases h1 : m = 1
  · subst h1
    refine at_skip rfl ?_
    try simp only [inBlockE, thenE]
    refine hK1 _ _ ?_
    clear hK1
    refine at_seq rfl fun K3 hK3 => ?_
    refine at_block 14 rfl ?_
    refine at_seq rfl fun K4 hK4 => ?_
    refine at_seq rfl fun K5 hK5 => ?_
    (conv => arg 4; whnf)
    refine fw_region_lit rfl ?_
    simp [go_sem, opsF, opF, upF, Region.wanted, Fr.ev, Fr.put, thenE, inBlockE, Oper.semAt, yieldF, h11, h12, h14, h38, h39, h40, h44, h45, h46, h47, h48, h389]
    refine on_kf hK5 [(11, _), (12, _), (14, _), (38, _), (39, _), (40, _), (44, _), (45, _), (46, _), (47, _), (48, _), (393, _)] (fa_cons h11 (fa_cons h12 (fa_cons h14 (fa_cons h38 (fa_cons h39 (fa_cons h40 (fa_cons h44 (fa_cons h45 (fa_cons h46 (fa_cons h47 (fa_cons h48 (fa_cons (by simp [h11, h12, h14, h38, h39, h40, h44, h45, h46, h47, h48, h389] <;> rfl) fa_nil)))))))))))) hds ?_
    clear hK5 h11 h12 h14 h38 h39 h40 h44 h45 h46 h47 h48 h389 hds; intro s hs hds
    obtain ⟨h11, h12, h14, h38, h39, h40, h44, h45, h46, h47, h48, h393⟩ := facts12 hs; clear hs
    refine at_true 393 rfl h393 ?_
    refine at_seq rfl fun K6 hK6 => ?_
    (conv => arg 4; whnf)
    refine fw_region_lit rfl ?_
    simp [go_sem, opsF, opF, upF, Region.wanted, Fr.ev, Fr.put, thenE, inBlockE, Oper.semAt, yieldF, h11, h12, h14, h38, h39, h40, h44, h45, h46, h47, h48, h393, d1]
    refine on_kf hK6 [(11, _), (12, _), (14, _), (38, _), (39, _), (40, _), (44, _), (45, _), (46, _), (47, _)] (fa_cons h11 (fa_cons h12 (fa_cons h14 (fa_cons h38 (fa_cons h39 (fa_cons h40 (fa_cons h44 (fa_cons h45 (fa_cons h46 (fa_cons (by simp [h11, h12, h14, h38, h39, h40, h44, h45, h46, h47, h48, h393, d1] <;> rfl) fa_nil)))))))))) hds ?_
    clear hK6 h11 h12 h14 h38 h39 h40 h44 h45 h46 h47 h48 h393 hds; intro s hs hds
    obtain ⟨h11, h12, h14, h38, h39, h40, h44, h45, h46, h47⟩ := facts10 hs; clear hs
    refine at_exit 13 rfl ?_
    simp only [inBlockE, thenE, if_true]
    refine hK s ⟨h11, h12, h14, h38, h39, h40, h44, h45, h46, hds⟩ ?_
    rw [h47, ← hc]
    simp [bits]
  · have e1 : ((m : Int) == 1) = false := by simp; omega
    have d2 : IntKind.i64.wrap ((m : Int) + 1) = (m : Int) + 1 := IntWalk.i64_in _ (by omega)
    have d3 : Int.tdiv ((m : Int) + 1) 2 = ((m : Int) + 1) / 2 := Int.tdiv_eq_ediv_of_nonneg (by omega)
    have d4 : ((m : Int) + 1) / 2 = (((m + 1) / 2 : Nat) : Int) := by omega
    have d5 : IntKind.i64.wrap ((((m + 1) / 2 : Nat) : Int)) = (((m + 1) / 2 : Nat) : Int) := IntWalk.i64_in _ (by omega)
    generalize hm2 : (m + 1) / 2 = m2 at *
    refine at_skip rfl ?_
    try simp only [inBlockE, thenE]
    refine hK1 _ _ ?_
    clear hK1
    refine at_seq rfl fun K7 hK7 => ?_
    refine at_block 14 rfl ?_
    refine at_seq rfl fun K8 hK8 => ?_
    refine at_seq rfl fun K9 hK9 => ?_
    (conv => arg 4; whnf)
    refine fw_region_lit rfl ?_
    simp [go_sem, opsF, opF, upF, Region.wanted, Fr.ev, Fr.put, thenE, inBlockE, Oper.semAt, yieldF, h11, h12, h14, h38, h39, h40, h44, h45, h46, h47, h48, h389, e1]
    refine on_kf hK9 [(11, _), (12, _), (14, _), (38, _), (39, _), (40, _), (44, _), (45, _), (46, _), (47, _), (48, _), (393, _)] (fa_cons h11 (fa_cons h12 (fa_cons h14 (fa_cons h38 (fa_cons h39 (fa_cons h40 (fa_cons h44 (fa_cons h45 (fa_cons h46 (fa_cons h47 (fa_cons h48 (fa_cons (by simp [h11, h12, h14, h38, h39, h40, h44, h45, h46, h47, h48, h389, e1] <;> rfl) fa_nil)))))))))))) hds ?_
    clear hK9 h11 h12 h14 h38 h39 h40 h44 h45 h46 h47 h48 h389 hds; intro s hs hds
    obtain ⟨h11, h12, h14, h38, h39, h40, h44, h45, h46, h47, h48, h393⟩ := facts12 hs; clear hs
    refine at_false 393 rfl h393 ?_
    refine at_skip rfl ?_
    try simp only [inBlockE, thenE]
    refine hK8 _ _ ?_
    clear hK8
    (conv => arg 4; whnf)
    refine fw_region_lit rfl ?_
    simp [go_sem, opsF, opF, upF, Region.wanted, Fr.ev, Fr.put, thenE, inBlockE, Oper.semAt, yieldF, h11, h12, h14, h38, h39, h40, h44, h45, h46, h47, h48, h393, d1, d2, d3, d4, d5]
    refine on_kf hK7 [(11, _), (12, _), (14, _), (38, _), (39, _), (40, _), (44, _), (45, _), (46, _), (47, _), (48, _)] (fa_cons h11 (fa_cons h12 (fa_cons h14 (fa_cons h38 (fa_cons h39 (fa_cons h40 (fa_cons h44 (fa_cons h45 (fa_cons h46 (fa_cons h47 (fa_cons (by simp [h11, h12, h14, h38, h39, h40, h44, h45, h46, h47, h48, h393, d1, d2, d3, d4, d5] <;> rfl) fa_nil))))))))))) hds ?_
    clear hK7 h11 h12 h14 h38 h39 h40 h44 h45 h46 h47 h48 h393 hds; intro s hs hds
    obtain ⟨h11, h12, h14, h38, h39, h40, h44, h45, h46, h47, h48⟩ := facts11 hs; clear hs
    (conv => arg 4; whnf)
    refine fw_region_lit rfl ?_
    simp [go_sem, opsF, opF, upF, Region.wanted, Fr.ev, Fr.put, thenE, inBlockE, Oper.semAt, yieldF, h11, h12, h14, h38, h39, h40, h44, h45, h46, h47, h48, d1, d2, d3, d4, d5]
    have hbs : bits (m - 1) = bits (m2 - 1) + 1 := by
      rw [bits_half (by omega), show (m - 1) / 2 = m2 - 1 by omega]
    exact ⟨m2, by omega, m2, c + 1, rfl, by omega, by omega, by omega, ⟨by simp [h11], by simp [h12], by simp [h14], by simp [h38], by simp [h39], by simp [h40], by simp [h44], by simp [h45], by simp [h46], hds⟩, by simp, by simp [h48], rfl⟩

set_option maxHeartbeats 4000000 in
theorem seg93 (s : Fr) (w0 w : World) (low high : Int) (tv av gv qv : Value) (d : Bool) (n : Nat) (ts : List Tr) (qs : List Int) (g1 : 1 ≤ low) (g2 : low < high) (g3 : high ≤ 400) (hn : high - low = (n : Int))
    (hs : SE low high tv av gv qv d s) (h47 : s.t 47 = .int .i64 (deepOf n : Int)) (hnw : New w0 w)
    (r1 : Row w 43 3 gv ts.length (trs ts)) (r2 : Row w 43 3 tv ts.length (trs ts)) (r3 : Row w 3 1 qv qs.length (qs.map (Value.int .i64))) (r4 : Row w 3 1 av qs.length (qs.map (Value.int .i64))) :
    FW Try.prog 448 none (sub body3 [1,1,1,1,1,1,1,1,1,1,1,1,1,1,1,1,1,1,1]) (postF Try.prog Try.f3 fun v w' => v = .bool true ∧ New w0 w') s w := by
  obtain ⟨h11, h12, h14, h38, h39, h40, h44, h45, h46, hds⟩ := hs
  have c2 : IntKind.i64.wrap (high - low) = high - low := IntWalk.i64_in _ (by omega)
  have c2' : IntKind.i64.wrap (n : Int) = (n : Int) := IntWalk.i64_in _ (by omega)
  have c3 : Int.tdiv (high - low) 2 = (high - low) / 2 := Int.tdiv_eq_ediv_of_nonneg (by omega)
  have c4 : IntKind.i64.wrap ((high - low) / 2) = (high - low) / 2 := IntWalk.i64_in _ (by omega)
  have c5 : IntKind.i64.wrap (low + (high - low) / 2) = low + (high - low) / 2 := IntWalk.i64_in _ (by omega)
  have hmd : midOf low high = low + (high - low) / 2 := rfl
  refine at_seq rfl fun K10 hK10 => ?_
  (conv => arg 4; whnf)
  refine fw_region_lit rfl ?_
  refine ops_take 2 fun KO hKO => ?_
  simp [go_sem, opsF, opF, upF, Region.wanted, Fr.ev, Fr.put, thenE, inBlockE, Oper.semAt, yieldF, h11, h12, h14, h38, h39, h40, h44, h45, h46, h47]
  refine hKO _ _ ?_
  clear hKO
  simp only [List.drop_succ_cons, List.drop_zero]
  refine ops_call rfl rfl rfl call16 (by simp [Fr.ev, h11, h12, h14, h38, h39, h40, h44, h45, h46, h47] <;> rfl) ?_
  refine (pivot_any low high w g1 g2 (by omega)).on ?_
  rintro _ w1 ⟨rfl, rfl⟩
  simp [go_sem, opsF, opF, upF, Region.wanted, Fr.ev, Fr.put, thenE, inBlockE, Oper.semAt, yieldF, h11, h12, h14, h38, h39, h40, h44, h45, h46, h47]
  refine on_kf hK10 [(11, _), (12, _), (14, _), (38, _), (39, _), (40, _), (44, _), (45, _), (46, _), (47, _), (49, _), (50, _)] (fa_cons h11 (fa_cons h12 (fa_cons h14 (fa_cons h38 (fa_cons h39 (fa_cons h40 (fa_cons h44 (fa_cons h45 (fa_cons h46 (fa_cons h47 (fa_cons (by simp [h11, h12, h14, h38, h39, h40, h44, h45, h46, h47] <;> rfl) (fa_cons (by simp [h11, h12, h14, h38, h39, h40, h44, h45, h46, h47] <;> rfl) fa_nil)))))))))))) hds ?_
  clear hK10 h11 h12 h14 h38 h39 h40 h44 h45 h46 h47 hds; intro s hs hds
  obtain ⟨h11, h12, h14, h38, h39, h40, h44, h45, h46, h47, h49, h50⟩ := facts12 hs; clear hs
  refine at_seq rfl fun K11 hK11 => ?_
  (conv => arg 4; whnf)
  refine fw_region_lit rfl ?_
  refine ops_take 19 fun KO hKO => ?_
  simp [go_sem, opsF, opF, upF, Region.wanted, Fr.ev, Fr.put, thenE, inBlockE, Oper.semAt, yieldF, h11, h12, h14, h38, h39, h40, h44, h45, h46, h47, h49, h50, c2, c3, c4, c5, hmd]
  refine hKO _ _ ?_
  clear hKO
  simp only [List.drop_succ_cons, List.drop_zero]
  refine ops_call rfl (by simp [Region.wanted, yieldF, h11, h12, h14, h38, h39, h40, h44, h45, h46, h47, h49, h50]) rfl call17 (by simp [Fr.ev, h11, h12, h14, h38, h39, h40, h44, h45, h46, h47, h49, h50] <;> rfl) ?_
  refine (equalTr_any gv tv ts w1 r1 r2).on ?_
  rintro _ w2 ⟨rfl, hn2⟩
  refine ops_take 4 fun KO hKO => ?_
  simp [go_sem, opsF, opF, upF, Region.wanted, Fr.ev, Fr.put, thenE, inBlockE, Oper.semAt, yieldF, h11, h12, h14, h38, h39, h40, h44, h45, h46, h47, h49, h50]
  refine hKO _ _ ?_
  clear hKO
  simp only [List.drop_succ_cons, List.drop_zero]
  refine ops_call rfl (by simp [Region.wanted, yieldF, h11, h12, h14, h38, h39, h40, h44, h45, h46, h47, h49, h50]) rfl call13 (by simp [Fr.ev, h11, h12, h14, h38, h39, h40, h44, h45, h46, h47, h49, h50] <;> rfl) ?_
  refine (equal_any qv av qs w2 (r3.frm hn2 (fun _ _ h => h)) (r4.frm hn2 (fun _ _ h => h))).on ?_
  rintro _ w3 ⟨rfl, hn3⟩
  refine ops_take 10 fun KO hKO => ?_
  simp [go_sem, opsF, opF, upF, Region.wanted, Fr.ev, Fr.put, thenE, inBlockE, Oper.semAt, yieldF, h11, h12, h14, h38, h39, h40, h44, h45, h46, h47, h49, h50, hn, c2']
  refine hKO _ _ ?_
  clear hKO
  simp only [List.drop_succ_cons, List.drop_zero]
  refine ops_call rfl (by simp [Region.wanted, yieldF, h11, h12, h14, h38, h39, h40, h44, h45, h46, h47, h49, h50, hn, c2']) rfl call18 (by simp [Fr.ev, h11, h12, h14, h38, h39, h40, h44, h45, h46, h47, h49, h50, hn, c2'] <;> rfl) ?_
  refine (deep_any n w3 (by omega)).on ?_
  rintro _ w4 ⟨rfl, rfl⟩
  refine ops_take 4 fun KO hKO => ?_
  simp [go_sem, opsF, opF, upF, Region.wanted, Fr.ev, Fr.put, thenE, inBlockE, Oper.semAt, yieldF, h11, h12, h14, h38, h39, h40, h44, h45, h46, h47, h49, h50]
  refine hKO _ _ ?_
  clear hKO
  simp only [List.drop_succ_cons, List.drop_zero]
  refine ops_call rfl (by simp [Region.wanted, yieldF, h11, h12, h14, h38, h39, h40, h44, h45, h46, h47, h49, h50]) rfl call18 (by simp [Fr.ev, h11, h12, h14, h38, h39, h40, h44, h45, h46, h47, h49, h50] <;> rfl) ?_
  refine (deep_any 0 w4 (by omega)).on ?_
  rintro _ w5 ⟨rfl, rfl⟩
  simp [go_sem, opsF, opF, upF, Region.wanted, Fr.ev, Fr.put, thenE, inBlockE, Oper.semAt, yieldF, h11, h12, h14, h38, h39, h40, h44, h45, h46, h47, h49, h50]
  refine on_kf hK11 [(10, _)] (fa_cons (by simp [h11, h12, h14, h38, h39, h40, h44, h45, h46, h47, h49, h50] <;> rfl) fa_nil) hds ?_
  clear hK11 h11 h12 h14 h38 h39 h40 h44 h45 h46 h47 h49 h50 hds; intro s hs hds
  have h10 : s.t 10 = _ := hs (10, _) (List.mem_singleton_self _); clear hs
  refine at_ret rfl ?_
  try simp only [inBlockE, thenE]
  exact ret_one rfl hds ⟨by rw [h10]; simp [deepOf], New.trans hnw (New.trans hn2 hn3)⟩
end Go.Proofs.Ytiejaopidkghdac
