/- The law, whole: it returns true, and writes nothing that was there. -/
import Derived.Test.YtiejaopidkghdacPt
namespace Go.Proofs.Ytiejaopidkghdac
set_option linter.unusedSimpArgs false
set_option linter.unusedVariables false
open Go.RowKit Go.Lf

def knowns : List (Int × Int) := [(0, 0), (0, 0), (1, 0)]
theorem knowns_ok : ∀ t ∈ knowns, U2ok t := by
  intro t ht
  simp [knowns] at ht
  rcases ht with rfl | rfl <;> simp [U2ok]
theorem info31 : (Try.prog.info? 31).map (fun i => (i.zero, i.size, i.bytes)) = some (some (.agg #[.int .u16 0, .int .u16 0]), 2, 4) := by kernel_rfl

theorem knowns_row (w : World) : Row (w.alloc (Obj.cells #[.int .u16 0, .int .u16 0, .int .u16 0, .int .u16 0, .int .u16 1, .int .u16 0] 31)) 31 2 (.slice (some ⟨w.heap.size, 0, none⟩) 3 3) 3 (u2s knowns) :=
  Row.new w [.int .u16 0, .int .u16 0, .int .u16 0, .int .u16 0, .int .u16 1, .int .u16 0] 31 2 3 rfl (by unfold maxLen; omega)

/-- What the law's list of calls is, behind its append. -/
theorem calls_row (w : World) (b : Nat) (u : Value) (ts : List (Int × Int)) (hk : Row w 31 2 (.slice (some ⟨b, 0, none⟩) 3 3) 3 (u2s knowns)) (h100 : ts.length ≤ 100)
    (hu : (u = .slice none 0 0 ∧ ts = []) ∨ ∃ a cap, u = .slice (some a) ts.length cap ∧ ∀ j x, (u2s ts)[j]? = some x → w.cell? (a.add j) = some x) :
    ∃ g cap w', (Builtin.append_ #[23, 23] 23 #[.slice (some ⟨b, 0, none⟩) 3 3, u]).run Try.prog w = .ok (.slice (some ⟨g, 0, none⟩) (3 + ts.length) cap) w' ∧ Row w' 31 2 (.slice (some ⟨g, 0, none⟩) (3 + ts.length) cap) (3 + ts.length) (u2s (knowns ++ ts)) ∧ Frm (fun k => k = b) w w' ∧ (g = b ∨ w.heap.size ≤ g) := by
  rcases hu with ⟨rfl, rfl⟩ | ⟨a, cap, rfl, hc⟩
  · obtain ⟨i, hi1, hi2, hi3, hi4⟩ := info_parts info31
    refine ⟨b, 3, w, run_append_owned_none w 0 23 23 31 i 2 Try.underlying23 hi1 _ 3 _ hk, by simpa using hk, Frm.refl _ _, .inl rfl⟩
  · have h1 : ∀ x ∈ u2s ts, x.oneCell' = true := by
      intro x hx
      unfold u2s at hx
      rw [List.mem_flatMap] at hx
      obtain ⟨t, _, ht⟩ := hx
      simp [U2.enc] at ht
      rcases ht with rfl | rfl <;> rfl
    obtain ⟨v', w', r1, r2, r3, r4, r5⟩ := hk.append (P := Try.prog) (t := 23) (ty := 23) Try.underlying23 info31 rfl (by decide) a ts.length cap (u2s ts) (u2s_len ts) hc h1 (by unfold maxLen; omega) (by omega)
    obtain ⟨g, cp, rfl⟩ : ∃ g cp, v' = .slice (some ⟨g, 0, none⟩) (3 + ts.length) cp := by
      rcases r2.val with ⟨_, h, _⟩ | ⟨g, cp, h, _⟩
      · omega
      · exact ⟨g, cp, h⟩
    refine ⟨g, cp, w', r1, by unfold u2s at r2 ⊢; rw [List.flatMap_append]; exact r2, r3.mono (fun k _ h => by cases h; rfl), ?_⟩
    rcases r5 g rfl with h | ⟨h, _⟩
    · cases h; exact .inl rfl
    · exact .inr h

theorem u2s_take (zs : List (Int × Int)) (n j : Nat) (x : Value) (h : (u2s (zs.take n))[j]? = some x) : (u2s zs)[j]? = some x := by
  unfold u2s at h ⊢
  rw [← flat_take U2.enc 2 U2.enc_len zs n, List.getElem?_take] at h
  split at h
  · exact h
  · cases h

set_option maxHeartbeats 4000000 in
theorem law_any (root above sure : Int) (lv hv : Value) (zs hs : List (Int × Int)) (w : World) (b0 : 0 ≤ root ∧ root ≤ 255) (b1 : 0 ≤ above ∧ above ≤ 65535) (b4 : 0 ≤ sure ∧ sure ≤ 255) (hl : IsU2 w lv zs) (hh : IsU2 w hv hs) :
    CallsV Try.prog 3 #[.int .u8 root, .int .u16 above, lv, hv, .int .u8 sure] w fun v w' => v = .bool true ∧ New w w' := by
  refine calls_at body3 Try.func3 rfl 448 rfl (by simp) fun s hs hds => ?_
  have h0 := hs 0 _ rfl
  have h1 := hs 1 _ rfl
  have h2 := hs 2 _ rfl
  have h3 := hs 3 _ rfl
  have h4 := hs 4 _ rfl
  try simp only [List.getElem_toArray, List.getElem_cons_zero, List.getElem_cons_succ] at h0 h1 h2 h3 h4
  clear hs
  have m0 : Int.tmod root 60 = root % 60 := Int.tmod_eq_emod_of_nonneg (by omega)
  have m1 : Int.tmod above 301 = above % 301 := Int.tmod_eq_emod_of_nonneg (by omega)
  have q0 : 0 ≤ root % 60 ∧ root % 60 < 60 := by omega
  have q1 : 0 ≤ above % 301 ∧ above % 301 < 301 := by omega
  generalize root % 60 = r at *
  generalize above % 301 = a at *
  have u0 : IntKind.u8.wrap r = r := IntWalk.u8_in _ (by omega)
  have u1 : IntKind.u16.wrap a = a := IntWalk.u16_in _ (by omega)
  have v0 : IntKind.i64.wrap r = r := IntWalk.i64_in _ (by omega)
  have v1 : IntKind.i64.wrap a = a := IntWalk.i64_in _ (by omega)
  have v2 : IntKind.i64.wrap (1 + r) = 1 + r := IntWalk.i64_in _ (by omega)
  have v3 : IntKind.i64.wrap (1 + r + a) = 1 + r + a := IntWalk.i64_in _ (by omega)
  refine at_seq rfl fun K1 hK1 => ?_
  (conv => arg 4; whnf)
  refine fw_region_lit rfl ?_
  simp [go_sem, opsF, opF, upF, Region.wanted, Fr.ev, Fr.put, thenE, inBlockE, Oper.semAt, yieldF, h0, h1, h2, h3, h4, m0, m1, u0, u1, v0, v1, v2, v3]
  refine on_kf hK1 [(0, _), (1, _), (2, _), (3, _), (4, _)] (fa_cons h0 (fa_cons h1 (fa_cons h2 (fa_cons h3 (fa_cons h4 fa_nil))))) hds ?_
  clear hK1 h0 h1 h2 h3 h4 hds; intro s hs hds
  obtain ⟨h0, h1, h2, h3, h4⟩ := facts5 hs; clear hs
  refine at_seq rfl fun K2 hK2 => ?_
  (conv => arg 4; whnf)
  refine fw_region_lit rfl ?_
  simp [go_sem, opsF, opF, upF, Region.wanted, Fr.ev, Fr.put, thenE, inBlockE, Oper.semAt, yieldF, h0, h1, h2, h3, h4, m0, m1, u0, u1, v0, v1, v2, v3]
  refine on_kf hK2 [(2, _), (3, _), (4, _), (11, _), (12, _)] (fa_cons h2 (fa_cons h3 (fa_cons h4 (fa_cons (by simp [h0, h1, h2, h3, h4, m0, m1, u0, u1, v0, v1, v2, v3] <;> rfl) (fa_cons (by simp [h0, h1, h2, h3, h4, m0, m1, u0, u1, v0, v1, v2, v3] <;> rfl) fa_nil))))) hds ?_
  clear hK2 h0 h1 h2 h3 h4 hds; intro s hs hds
  obtain ⟨h2, h3, h4, h11, h12⟩ := facts5 hs; clear hs
  refine at_seq rfl fun K3 hK3 => ?_
  by_cases ha : a = 0
  · subst ha
    rw [show (1 + r + 0 : Int) = 1 + r by omega] at h12
    (conv => arg 4; whnf)
    refine fw_region_lit rfl ?_
    refine ops_take 2 fun KO hKO => ?_
    simp [go_sem, opsF, opF, upF, Region.wanted, Fr.ev, Fr.put, thenE, inBlockE, Oper.semAt, yieldF, h2, h3, h4, h11, h12]
    refine hKO _ _ ?_
    clear hKO
    simp only [List.drop_succ_cons, List.drop_zero]
    refine ops_call rfl rfl rfl call4 (by simp [Fr.ev, h2, h3, h4, h11, h12] <;> rfl) ?_
    refine (new_no (1 + r) w (by omega) (by omega)).on ?_
    rintro _ w1 ⟨rfl, rfl⟩
    simp [go_sem, opsF, opF, upF, Region.wanted, Fr.ev, Fr.put, thenE, inBlockE, Oper.semAt, yieldF, h2, h3, h4, h11, h12]
    refine on_kf hK3 [(2, _), (3, _), (4, _), (11, _), (12, _), (13, _), (14, _)] (fa_cons h2 (fa_cons h3 (fa_cons h4 (fa_cons h11 (fa_cons h12 (fa_cons (by simp [h2, h3, h4, h11, h12] <;> rfl) (fa_cons (by simp [h2, h3, h4, h11, h12] <;> rfl) fa_nil))))))) hds ?_
    clear hK3 h2 h3 h4 h11 h12 hds; intro s hs hds
    obtain ⟨h2, h3, h4, h11, h12, h13, h14⟩ := facts7 hs; clear hs
    refine at_seq rfl fun K4 hK4 => ?_
    refine at_seq rfl fun K5 hK5 => ?_
    (conv => arg 4; whnf)
    refine fw_region_lit rfl ?_
    simp [go_sem, opsF, opF, upF, Region.wanted, Fr.ev, Fr.put, thenE, inBlockE, Oper.semAt, yieldF, h2, h3, h4, h11, h12, h13, h14]
    refine on_kf hK5 [(2, _), (3, _), (4, _), (11, _), (12, _), (13, _), (14, _), (71, _)] (fa_cons h2 (fa_cons h3 (fa_cons h4 (fa_cons h11 (fa_cons h12 (fa_cons h13 (fa_cons h14 (fa_cons (by simp [h2, h3, h4, h11, h12, h13, h14] <;> rfl) fa_nil)))))))) hds ?_
    clear hK5 h2 h3 h4 h11 h12 h13 h14 hds; intro s hs hds
    obtain ⟨h2, h3, h4, h11, h12, h13, h14, h71⟩ := facts8 hs; clear hs
    refine at_true 71 rfl h71 ?_
    refine at_seq rfl fun K6 hK6 => ?_
    (conv => arg 4; whnf)
    refine fw_region_lit rfl ?_
    refine ops_take 4 fun KO hKO => ?_
    simp [go_sem, opsF, opF, upF, Region.wanted, Fr.ev, Fr.put, thenE, inBlockE, Oper.semAt, yieldF, h2, h3, h4, h11, h12, h13, h14, h71]
    refine hKO _ _ ?_
    clear hKO
    simp only [List.drop_succ_cons, List.drop_zero]
    refine ops_call rfl (by simp [Region.wanted, yieldF, h2, h3, h4, h11, h12, h13, h14, h71]) rfl call5 (by simp [Fr.ev, h2, h3, h4, h11, h12, h13, h14, h71] <;> rfl) ?_
    refine (done_nil w1).on ?_
    rintro _ w2 ⟨rfl, rfl⟩
    refine ops_take 3 fun KO hKO => ?_
    simp [go_sem, opsF, opF, upF, Region.wanted, Fr.ev, Fr.put, thenE, inBlockE, Oper.semAt, yieldF, h2, h3, h4, h11, h12, h13, h14, h71]
    refine hKO _ _ ?_
    clear hKO
    simp only [List.drop_succ_cons, List.drop_zero]
    refine ops_call rfl (by simp [Region.wanted, yieldF, h2, h3, h4, h11, h12, h13, h14, h71]) rfl call6 (by simp [Fr.ev, h2, h3, h4, h11, h12, h13, h14, h71] <;> rfl) ?_
    refine (base_nil w2).on ?_
    rintro _ w3 ⟨rfl, rfl⟩
    refine ops_take 4 fun KO hKO => ?_
    simp [go_sem, opsF, opF, upF, Region.wanted, Fr.ev, Fr.put, thenE, inBlockE, Oper.semAt, yieldF, h2, h3, h4, h11, h12, h13, h14, h71]
    refine hKO _ _ ?_
    clear hKO
    simp only [List.drop_succ_cons, List.drop_zero]
    refine ops_call rfl (by simp [Region.wanted, yieldF, h2, h3, h4, h11, h12, h13, h14, h71]) rfl call7 (by simp [Fr.ev, h2, h3, h4, h11, h12, h13, h14, h71] <;> rfl) ?_
    refine (stop_nil w3).on ?_
    rintro _ w4 ⟨rfl, rfl⟩
    simp [go_sem, opsF, opF, upF, Region.wanted, Fr.ev, Fr.put, thenE, inBlockE, Oper.semAt, yieldF, h2, h3, h4, h11, h12, h13, h14, h71]
    refine on_kf hK6 [(10, _)] (fa_cons (by simp [h2, h3, h4, h11, h12, h13, h14, h71] <;> rfl) fa_nil) hds ?_
    clear hK6 h2 h3 h4 h11 h12 h13 h14 h71 hds; intro s hs hds
    have h10 : s.t 10 = _ := hs (10, _) (List.mem_singleton_self _); clear hs
    refine at_ret rfl ?_
    try simp only [inBlockE, thenE]
    exact ret_one rfl hds ⟨by rw [h10], Frm.refl _ _⟩
  · (conv => arg 4; whnf)
    refine fw_region_lit rfl ?_
    refine ops_take 2 fun KO hKO => ?_
    simp [go_sem, opsF, opF, upF, Region.wanted, Fr.ev, Fr.put, thenE, inBlockE, Oper.semAt, yieldF, h2, h3, h4, h11, h12]
    refine hKO _ _ ?_
    clear hKO
    simp only [List.drop_succ_cons, List.drop_zero]
    refine ops_call rfl rfl rfl call4 (by simp [Fr.ev, h2, h3, h4, h11, h12] <;> rfl) ?_
    refine (new_any (1 + r) (1 + r + a) w (by omega) (by omega) (by omega)).on ?_
    rintro _ w1 ⟨sb, slv, rfl, hS, hn1, hsb, hlo⟩
    have hne : ¬ (1 + r + a = 1 + r) := by omega
    have hne2 : ((1 + r + a : Int) == 1 + r) = false := by simp; omega
    simp [go_sem, opsF, opF, upF, Region.wanted, Fr.ev, Fr.put, thenE, inBlockE, Oper.semAt, yieldF, h2, h3, h4, h11, h12]
    refine on_kf hK3 [(2, _), (3, _), (4, _), (11, _), (12, _), (13, _), (14, _)] (fa_cons h2 (fa_cons h3 (fa_cons h4 (fa_cons h11 (fa_cons h12 (fa_cons (by simp [h2, h3, h4, h11, h12, hne, hne2] <;> rfl) (fa_cons (by simp [h2, h3, h4, h11, h12, hne, hne2] <;> rfl) fa_nil))))))) hds ?_
    clear hK3 h2 h3 h4 h11 h12 hds; intro s hs hds
    obtain ⟨h2, h3, h4, h11, h12, h13, h14⟩ := facts7 hs; clear hs
    refine at_seq rfl fun K7 hK7 => ?_
    refine at_seq rfl fun K8 hK8 => ?_
    (conv => arg 4; whnf)
    refine fw_region_lit rfl ?_
    simp [go_sem, opsF, opF, upF, Region.wanted, Fr.ev, Fr.put, thenE, inBlockE, Oper.semAt, yieldF, h2, h3, h4, h11, h12, h13, h14, hne, hne2]
    refine on_kf hK8 [(2, _), (3, _), (4, _), (11, _), (12, _), (13, _), (14, _), (71, _)] (fa_cons h2 (fa_cons h3 (fa_cons h4 (fa_cons h11 (fa_cons h12 (fa_cons h13 (fa_cons h14 (fa_cons (by simp [h2, h3, h4, h11, h12, h13, h14, hne, hne2] <;> rfl) fa_nil)))))))) hds ?_
    clear hK8 h2 h3 h4 h11 h12 h13 h14 hds; intro s hs hds
    obtain ⟨h2, h3, h4, h11, h12, h13, h14, h71⟩ := facts8 hs; clear hs
    refine at_false 71 rfl h71 ?_
    refine at_skip rfl ?_
    try simp only [inBlockE, thenE]
    refine hK7 _ _ ?_
    clear hK7
    refine at_seq rfl fun K9 hK9 => ?_
    refine at_seq rfl fun K10 hK10 => ?_
    (conv => arg 4; whnf)
    refine fw_region_lit rfl ?_
    simp [go_sem, opsF, opF, upF, Region.wanted, Fr.ev, Fr.put, thenE, inBlockE, Oper.semAt, yieldF, h2, h3, h4, h11, h12, h13, h14, h71]
    refine on_kf hK10 [(2, _), (3, _), (4, _), (11, _), (12, _), (13, _), (93, _)] (fa_cons h2 (fa_cons h3 (fa_cons h4 (fa_cons h11 (fa_cons h12 (fa_cons h13 (fa_cons (by simp [h2, h3, h4, h11, h12, h13, h14, h71] <;> rfl) fa_nil))))))) hds ?_
    clear hK10 h2 h3 h4 h11 h12 h13 h14 h71 hds; intro s hs hds
    obtain ⟨h2, h3, h4, h11, h12, h13, h93⟩ := facts7 hs; clear hs
    refine at_false 93 rfl h93 ?_
    have g1 : 1 ≤ 1 + r := by omega
    have g2 : 1 + r < 1 + r + a := by omega
    have g3 : 1 + r + a ≤ 400 := by omega
    generalize 1 + r = low at *
    generalize low + a = high at *
    have hA := Frm.alloc (fun _ => False) w1 (.cells #[.int .i64 high] 3)
    have hrs := Row.new w1 [.int .i64 high] 3 1 1 rfl (by unfold maxLen; omega)
    have hB := Frm.alloc (fun _ => False) (w1.alloc (.cells #[.int .i64 high] 3)) (.cells #[.int .u16 0, .int .u16 0, .int .u16 0, .int .u16 0, .int .u16 1, .int .u16 0] 31)
    have hk := knowns_row (w1.alloc (.cells #[.int .i64 high] 3))
    have hS2 := (hS.new hA).new hB
    have hrs2 := hrs.frm hB (fun _ _ h => h)
    have hlt := hS.row.lt
    have hs1 := hn1.size
    have hn2 := New.trans hn1 (New.trans hA hB)
    simp only [World.size_alloc] at hk
    refine at_skip rfl ?_
    try simp only [inBlockE, thenE]
    refine hK9 _ _ ?_
    clear hK9
    refine at_seq rfl fun K11 hK11 => ?_
    (conv => arg 4; whnf)
    refine fw_region_lit rfl ?_
    simp [go_sem, opsF, opF, upF, Region.wanted, Fr.ev, Fr.put, thenE, inBlockE, Oper.semAt, yieldF, h2, h3, h4, h11, h12, h13, h93]
    refine on_kf hK11 [(2, _), (3, _), (4, _), (11, _), (12, _), (13, _), (15, _), (16, _)] (fa_cons h2 (fa_cons h3 (fa_cons h4 (fa_cons h11 (fa_cons h12 (fa_cons h13 (fa_cons (by simp [h2, h3, h4, h11, h12, h13, h93] <;> rfl) (fa_cons (by simp [h2, h3, h4, h11, h12, h13, h93] <;> rfl) fa_nil)))))))) hds ?_
    clear hK11 h2 h3 h4 h11 h12 h13 h93 hds; intro s hs hds
    obtain ⟨h2, h3, h4, h11, h12, h13, h15, h16⟩ := facts8 hs; clear hs
    refine at_seq rfl fun K12 hK12 => ?_
    have hgo : ∀ (ts : List (Int × Int)) (g cp : Nat) (w3 : World) (s : Fr) (bk : Nat), bk = w1.heap.size + 1 → Row w3 31 2 (.slice (some ⟨g, 0, none⟩) (3 + ts.length) cp) (3 + ts.length) (u2s (knowns ++ ts)) → Frm (fun k => k = bk) ((w1.alloc (.cells #[.int .i64 high] 3)).alloc (.cells #[.int .u16 0, .int .u16 0, .int .u16 0, .int .u16 0, .int .u16 1, .int .u16 0] 31)) w3 → (g = bk ∨ w1.heap.size + 2 ≤ g) → ts.length ≤ 100 → (∀ t ∈ ts, U2ok t) →
        s.ds = [] → s.t 3 = hv → s.t 4 = .int .u8 sure → s.t 11 = .int .i64 low → s.t 12 = .int .i64 high → s.t 13 = .pointer (some ⟨sb, 0, none⟩) → s.t 15 = .int .i64 low → s.t 16 = .slice (some ⟨w1.heap.size, 0, none⟩) 1 1 → s.t 106 = .slice (some ⟨g, 0, none⟩) (3 + ts.length) cp → s.t 107 = .int .i64 ((3 + ts.length : Nat) : Int) → s.t 108 = .int .i64 0 →
        FW Try.prog 448 none (sub body3 [1,0,1,1,1,1,1,1]) (thenE K12 (postF Try.prog Try.f3 fun v w' => v = .bool true ∧ New w w')) s w3 := by
      clear h2 h3 h4 h11 h12 h13 h15 h16 hds
      intro ts g cp w3 s bk hbk hrow hfr hg hlen hok hds h3 h4 h11 h12 h13 h15 h16 h106 h107 h108
      have hl3 : (knowns ++ ts).length = 3 + ts.length := by simp [knowns]; omega
      have hL : LW w w3 sb low high low [high] slv (.slice (some ⟨w1.heap.size, 0, none⟩) 1 1) (.slice (some ⟨g, 0, none⟩) (3 + ts.length) cp) (knowns ++ ts) := by
        refine ⟨hS2.frm hfr ?_ ?_, hrs2.frm hfr ?_, by rw [hl3]; exact hrow, ?_, Frm.trans hn2 hfr (fun b hb e => by omega), by omega, ?_, ⟨g1, by omega, by simp, fun x hx => by simp at hx; omega⟩⟩
        · have := hS.blk.lt; omega
        · intro k hk e
          have := hlt k hk; omega
        · intro k hk e
          cases hk
          have : w1.heap.size = bk := e
          omega
        · intro k hk e
          cases hk
          have : w1.heap.size < w1.heap.size := hlt _ e
          omega
        · rintro k (e | e | e)
          · have := hlo k e; omega
          · cases e; exact hs1
          · cases e; show w.heap.size ≤ g; omega
      refine loop_calls s w w3 _ _ hv (.int .u8 sure) low high sb _ (knowns ++ ts) g1 g2 g3 (by rw [hl3]; omega) ?_ ⟨0, low, [high], slv, _, by omega, by omega, ⟨h3, h4, h11, h12, h13, h15, h16, h106, by rw [hl3]; exact h107, by simpa using h108, hds⟩, hL⟩ ?_
      · intro t ht
        rcases List.mem_append.1 ht with h | h
        · exact knowns_ok t h
        · exact hok t h
      · rintro s w4 ⟨i, base, l, lv2, sv2, hi, hi0, hs4, hL4⟩
        exact hK12 _ _ (law_pairs s w w4 low high hv hs sure g1 g2 g3 b4 hh hL4.nw hs4.ds hs4.t3 hs4.t4 hs4.t11 hs4.t12)
    have hb2 : w1.heap.size + 1 = (w1.alloc (.cells #[.int .i64 high] 3)).heap.size := by simp
    have hb3 : ((w1.alloc (.cells #[.int .i64 high] 3)).alloc (.cells #[.int .u16 0, .int .u16 0, .int .u16 0, .int .u16 0, .int .u16 1, .int .u16 0] 31)).heap.size = w1.heap.size + 2 := by simp
    have hcl : ∀ (zs : List (Int × Int)) (ad : Addr), (∀ j u, (u2s zs)[j]? = some u → w.cell? (ad.add j) = some u) → ∀ j u, (u2s zs)[j]? = some u → ((w1.alloc (.cells #[.int .i64 high] 3)).alloc (.cells #[.int .u16 0, .int .u16 0, .int .u16 0, .int .u16 0, .int .u16 1, .int .u16 0] 31)).cell? (ad.add j) = some u := fun zs ad hc j u hu => cell_new hn2 (hc j u hu)
    rcases hl with ⟨rfl, rfl⟩ | ⟨ad, cap, rfl, hcap, hmax, hcell, hok⟩
    · obtain ⟨g, cp, w3, hap, hrow3, hfr3, hg⟩ := calls_row _ (w1.heap.size + 1) (.slice none 0 0) [] hk (by simp) (.inl ⟨rfl, rfl⟩)
      refine at_seq rfl fun K13 hK13 => ?_
      (conv => arg 4; whnf)
      refine fw_region_lit rfl ?_
      refine ops_take 9 fun KO hKO => ?_
      simp [go_sem, opsF, opF, upF, Region.wanted, Fr.ev, Fr.put, thenE, inBlockE, Oper.semAt, yieldF, h2, h3, h4, h11, h12, h13, h15, h16]
      refine hKO _ _ ?_
      clear hKO
      refine ops_append rfl rfl rfl (v := .slice (some ⟨w1.heap.size + 1, 0, none⟩) 3 3) (u := .slice none 0 0) (by simp [Fr.ev]) (by simp [Fr.ev]) hap ?_
      try simp [go_sem, opsF, opF, upF, Region.wanted, Fr.ev, Fr.put, thenE, inBlockE, Oper.semAt, yieldF, h2, h3, h4, h11, h12, h13, h15, h16]
      refine on_kf hK13 [(3, _), (4, _), (11, _), (12, _), (13, _), (15, _), (16, _), (106, _), (107, _), (108, _)] (fa_cons h3 (fa_cons h4 (fa_cons h11 (fa_cons h12 (fa_cons h13 (fa_cons h15 (fa_cons h16 (fa_cons (by simp [h2, h3, h4, h11, h12, h13, h15, h16] <;> rfl) (fa_cons (by simp [h2, h3, h4, h11, h12, h13, h15, h16] <;> rfl) (fa_cons (by simp [h2, h3, h4, h11, h12, h13, h15, h16] <;> rfl) fa_nil)))))))))) hds ?_
      clear hK13 h2 h3 h4 h11 h12 h13 h15 h16 hds; intro s hs hds
      obtain ⟨h3, h4, h11, h12, h13, h15, h16, h106, h107, h108⟩ := facts10 hs; clear hs
      rw [hb3] at hg
      exact hgo [] g cp w3 s _ rfl hrow3 hfr3 hg (by simp) (by simp) hds h3 h4 h11 h12 h13 h15 h16 h106 (by simpa using h107) h108
    · by_cases h100 : zs.length ≤ 100
      · have d0 : ¬ 100 < (zs.length : Int) := by omega
        obtain ⟨g, cp, w3, hap, hrow3, hfr3, hg⟩ := calls_row _ (w1.heap.size + 1) (.slice (some ad) zs.length cap) zs hk h100 (.inr ⟨ad, cap, rfl, hcl zs ad hcell⟩)
        refine at_seq rfl fun K14 hK14 => ?_
        (conv => arg 4; whnf)
        refine fw_region_lit rfl ?_
        refine ops_take 9 fun KO hKO => ?_
        simp [go_sem, opsF, opF, upF, Region.wanted, Fr.ev, Fr.put, thenE, inBlockE, Oper.semAt, yieldF, h2, h3, h4, h11, h12, h13, h15, h16, d0, hcap]
        refine hKO _ _ ?_
        clear hKO
        refine ops_append rfl rfl rfl (v := .slice (some ⟨w1.heap.size + 1, 0, none⟩) 3 3) (u := .slice (some ad) zs.length cap) (by simp [Fr.ev]) (by simp [Fr.ev]) hap ?_
        try simp [go_sem, opsF, opF, upF, Region.wanted, Fr.ev, Fr.put, thenE, inBlockE, Oper.semAt, yieldF, h2, h3, h4, h11, h12, h13, h15, h16]
        refine on_kf hK14 [(3, _), (4, _), (11, _), (12, _), (13, _), (15, _), (16, _), (106, _), (107, _), (108, _)] (fa_cons h3 (fa_cons h4 (fa_cons h11 (fa_cons h12 (fa_cons h13 (fa_cons h15 (fa_cons h16 (fa_cons (by simp [h2, h3, h4, h11, h12, h13, h15, h16] <;> rfl) (fa_cons (by simp [h2, h3, h4, h11, h12, h13, h15, h16] <;> rfl) (fa_cons (by simp [h2, h3, h4, h11, h12, h13, h15, h16] <;> rfl) fa_nil)))))))))) hds ?_
        clear hK14 h2 h3 h4 h11 h12 h13 h15 h16 hds; intro s hs hds
        obtain ⟨h3, h4, h11, h12, h13, h15, h16, h106, h107, h108⟩ := facts10 hs; clear hs
        rw [hb3] at hg
        exact hgo zs g cp w3 s _ rfl hrow3 hfr3 hg h100 hok hds h3 h4 h11 h12 h13 h15 h16 h106 (by simpa using h107) h108
      · have d0 : 100 < (zs.length : Int) := by omega
        have d1 : (100 : Int) ≤ (cap : Int) := by omega
        have hlen : (zs.take 100).length = 100 := by rw [List.length_take]; omega
        obtain ⟨g, cp, w3, hap, hrow3, hfr3, hg⟩ := calls_row _ (w1.heap.size + 1) (.slice (some ad) 100 cap) (zs.take 100) hk (by omega) (.inr ⟨ad, cap, by rw [hlen], fun j x hx => hcl zs ad hcell j x (u2s_take zs 100 j x hx)⟩)
        refine at_seq rfl fun K15 hK15 => ?_
        (conv => arg 4; whnf)
        refine fw_region_lit rfl ?_
        refine ops_take 9 fun KO hKO => ?_
        simp [go_sem, opsF, opF, upF, Region.wanted, Fr.ev, Fr.put, thenE, inBlockE, Oper.semAt, yieldF, h2, h3, h4, h11, h12, h13, h15, h16, d0, d1]
        refine hKO _ _ ?_
        clear hKO
        refine ops_append rfl rfl rfl (v := .slice (some ⟨w1.heap.size + 1, 0, none⟩) 3 3) (u := .slice (some ad) 100 cap) (by simp [Fr.ev]) (by simp [Fr.ev]) hap ?_
        try simp [go_sem, opsF, opF, upF, Region.wanted, Fr.ev, Fr.put, thenE, inBlockE, Oper.semAt, yieldF, h2, h3, h4, h11, h12, h13, h15, h16]
        refine on_kf hK15 [(3, _), (4, _), (11, _), (12, _), (13, _), (15, _), (16, _), (106, _), (107, _), (108, _)] (fa_cons h3 (fa_cons h4 (fa_cons h11 (fa_cons h12 (fa_cons h13 (fa_cons h15 (fa_cons h16 (fa_cons (by simp [h2, h3, h4, h11, h12, h13, h15, h16] <;> rfl) (fa_cons (by simp [h2, h3, h4, h11, h12, h13, h15, h16] <;> rfl) (fa_cons (by simp [h2, h3, h4, h11, h12, h13, h15, h16] <;> rfl) fa_nil)))))))))) hds ?_
        clear hK15 h2 h3 h4 h11 h12 h13 h15 h16 hds; intro s hs hds
        obtain ⟨h3, h4, h11, h12, h13, h15, h16, h106, h107, h108⟩ := facts10 hs; clear hs
        rw [hb3] at hg
        exact hgo (zs.take 100) g cp w3 s _ rfl hrow3 hfr3 hg (by omega) (fun t ht => hok t (List.mem_of_mem_take ht)) hds h3 h4 h11 h12 h13 h15 h16 (by simpa using h106) (by simpa using h107) h108
end Go.Proofs.Ytiejaopidkghdac
