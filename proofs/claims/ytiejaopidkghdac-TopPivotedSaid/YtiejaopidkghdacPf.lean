/- How deep a number is; heights told. -/
import Derived.Test.YtiejaopidkghdacPe
namespace Go.Proofs.Ytiejaopidkghdac
set_option linter.unusedSimpArgs false
set_option linter.unusedVariables false
open Go.RowKit Go.Lf

/-- How many binary digits a number has. -/
def bits (m : Nat) : Nat := if m = 0 then 0 else m.log2 + 1
theorem bits_half {m : Nat} (h : m ≠ 0) : bits m = bits (m / 2) + 1 := by
  unfold bits
  rw [if_neg h, Nat.log2_def]
  by_cases h2 : 2 ≤ m
  · rw [if_pos h2, if_neg (by omega)]
  · rw [if_neg h2, if_pos (by omega)]
theorem bits_zero : bits 0 = 0 := by unfold bits; simp
theorem bits_le : ∀ m : Nat, bits m ≤ m := by
  intro m
  induction m using Nat.strongRecOn with
  | _ m ih =>
    by_cases h : m = 0
    · subst h; simp [bits]
    · rw [bits_half h]
      have := ih (m / 2) (by omega)
      omega

/-- How deep a number is. -/
def deepOf (n : Nat) : Nat := if n = 0 then 0 else bits (n - 1) + 1

def DpI (w0 : World) (r : Nat) (mm : Nat) (s : Fr) (w : World) : Prop := ∃ (m c : Nat), mm = m ∧ m ≤ 100000 ∧ c + bits m = r ∧ s.t 0 = .int .i64 (m : Int) ∧ s.t 3 = .int .i64 (c : Int) ∧ s.ds = [] ∧ w = w0

noncomputable def body14 : Code := Try.f14.body.getD .skip
theorem call14 (args : Array Value) (w : World) : (callFunc 14 args).run Try.prog w = .ok (.enter 14 args) w := callFunc_enter Try.func14 (by kernel_rfl) (by kernel_rfl) args w
theorem deep_any (n : Nat) (w : World) (hn : n ≤ 100000) : CallsV Try.prog 18 #[.int .i64 (n : Int)] w fun v w' => v = .int .i64 (deepOf n : Int) ∧ w' = w := by
  refine calls_at body18 Try.func18 rfl 15 rfl (by simp) fun s hs hds => ?_
  have h0 := hs 0 _ rfl
  clear hs
  by_cases hz : n = 0
  · subst hz
    refine at_seq rfl fun K1 hK1 => ?_
    (conv => arg 4; whnf)
    refine fw_region_lit rfl ?_
    simp [go_sem, opsF, opF, upF, Region.wanted, Fr.ev, Fr.put, thenE, inBlockE, Oper.semAt, yieldF, h0]
    refine on_kf hK1 [(0, _)] (fa_cons h0 fa_nil) hds ?_
    clear hK1 h0 hds; intro s hs hds
    have h0 : s.t 0 = _ := hs (0, _) (List.mem_singleton_self _); clear hs
    refine at_seq rfl fun K2 hK2 => ?_
    refine at_seq rfl fun K3 hK3 => ?_
    (conv => arg 4; whnf)
    refine fw_region_lit rfl ?_
    simp [go_sem, opsF, opF, upF, Region.wanted, Fr.ev, Fr.put, thenE, inBlockE, Oper.semAt, yieldF, h0]
    refine on_kf hK3 [(0, _), (5, _)] (fa_cons h0 (fa_cons (by simp [h0] <;> rfl) fa_nil)) hds ?_
    clear hK3 h0 hds; intro s hs hds
    obtain ⟨h0, h5⟩ := facts2 hs; clear hs
    refine at_true 5 rfl h5 ?_
    refine at_seq rfl fun K4 hK4 => ?_
    (conv => arg 4; whnf)
    refine fw_region_lit rfl ?_
    simp [go_sem, opsF, opF, upF, Region.wanted, Fr.ev, Fr.put, thenE, inBlockE, Oper.semAt, yieldF, h0, h5]
    refine on_kf hK4 [(2, _)] (fa_cons (by simp [h0, h5] <;> rfl) fa_nil) hds ?_
    clear hK4 h0 h5 hds; intro s hs hds
    have h2 : s.t 2 = _ := hs (2, _) (List.mem_singleton_self _); clear hs
    refine at_ret rfl ?_
    try simp only [inBlockE, thenE]
    exact ret_one rfl hds ⟨by rw [h2]; simp [deepOf], rfl⟩
  · have d0 : ¬ (n : Int) < 1 := by omega
    have d1 : IntKind.i64.wrap ((n : Int) - 1) = (n : Int) - 1 := IntWalk.i64_in _ (by omega)
    have d2 : (n : Int) - 1 = ((n - 1 : Nat) : Int) := by omega
    rw [d2] at d1
    refine at_seq rfl fun K5 hK5 => ?_
    (conv => arg 4; whnf)
    refine fw_region_lit rfl ?_
    simp [go_sem, opsF, opF, upF, Region.wanted, Fr.ev, Fr.put, thenE, inBlockE, Oper.semAt, yieldF, h0, d0]
    refine on_kf hK5 [(0, _)] (fa_cons h0 fa_nil) hds ?_
    clear hK5 h0 hds; intro s hs hds
    have h0 : s.t 0 = _ := hs (0, _) (List.mem_singleton_self _); clear hs
    refine at_seq rfl fun K6 hK6 => ?_
    refine at_seq rfl fun K7 hK7 => ?_
    (conv => arg 4; whnf)
    refine fw_region_lit rfl ?_
    simp [go_sem, opsF, opF, upF, Region.wanted, Fr.ev, Fr.put, thenE, inBlockE, Oper.semAt, yieldF, h0, d0]
    refine on_kf hK7 [(0, _), (5, _)] (fa_cons h0 (fa_cons (by simp [h0, d0] <;> rfl) fa_nil)) hds ?_
    clear hK7 h0 hds; intro s hs hds
    obtain ⟨h0, h5⟩ := facts2 hs; clear hs
    refine at_false 5 rfl h5 ?_
    refine at_skip rfl ?_
    try simp only [inBlockE, thenE]
    refine hK6 _ _ ?_
    clear hK6
    refine at_seq rfl fun K8 hK8 => ?_
    (conv => arg 4; whnf)
    refine fw_region_lit rfl ?_
    simp [go_sem, opsF, opF, upF, Region.wanted, Fr.ev, Fr.put, thenE, inBlockE, Oper.semAt, yieldF, h0, h5, d1, d2]
    refine on_kf hK8 [(0, _), (3, _)] (fa_cons h0 (fa_cons (by simp [h0, h5, d1, d2] <;> rfl) fa_nil)) hds ?_
    clear hK8 h0 h5 hds; intro s hs hds
    obtain ⟨h0, h3⟩ := facts2 hs; clear hs
    refine at_seq rfl fun K9 hK9 => ?_
    refine at_seq rfl fun K10 hK10 => ?_
    (conv => arg 4; whnf)
    refine fw_region_lit rfl ?_
    simp [go_sem, opsF, opF, upF, Region.wanted, Fr.ev, Fr.put, thenE, inBlockE, Oper.semAt, yieldF, h0, h3, d1, d2]
    refine on_kf hK10 [(0, _), (3, _)] (fa_cons (by simp [h0, h3, d1, d2] <;> rfl) (fa_cons h3 fa_nil)) hds ?_
    clear hK10 h0 h3 hds; intro s hs hds
    obtain ⟨h0, h3⟩ := facts2 hs; clear hs
    have hb := bits_le (n - 1)
    refine at_block 0 rfl ?_
    refine at_loop rfl (DpI w (deepOf n)) (n - 1) ⟨n - 1, 1, rfl, by omega, by rw [deepOf, if_neg hz]; omega, h0, h3, hds, rfl⟩ ?_
    clear h0 h3 hds
    clear s
    rintro m s w1 ⟨m', c, rfl, hm, hc, h0, h3, hds, rfl⟩
    by_cases hp : m = 0
    · subst hp
      refine at_seq rfl fun K11 hK11 => ?_
      refine at_seq rfl fun K12 hK12 => ?_
      (conv => arg 4; whnf)
      refine fw_region_lit rfl ?_
      simp [go_sem, opsF, opF, upF, Region.wanted, Fr.ev, Fr.put, thenE, inBlockE, Oper.semAt, yieldF, h0, h3]
      refine on_kf hK12 [(0, _), (3, _), (9, _)] (fa_cons h0 (fa_cons h3 (fa_cons (by simp [h0, h3] <;> rfl) fa_nil))) hds ?_
      clear hK12 h0 h3 hds; intro s hs hds
      obtain ⟨h0, h3, h9⟩ := facts3 hs; clear hs
      refine at_false 9 rfl h9 ?_
      refine at_exit 0 rfl ?_
      simp only [inBlockE, thenE, if_true]
      refine hK9 _ _ ?_
      clear hK9
      refine at_seq rfl fun K13 hK13 => ?_
      (conv => arg 4; whnf)
      refine fw_region_lit rfl ?_
      simp [go_sem, opsF, opF, upF, Region.wanted, Fr.ev, Fr.put, thenE, inBlockE, Oper.semAt, yieldF, h0, h3, h9]
      refine on_kf hK13 [(2, _)] (fa_cons (by simp [h0, h3, h9] <;> rfl) fa_nil) hds ?_
      clear hK13 h0 h3 h9 hds; intro s hs hds
      have h2 : s.t 2 = _ := hs (2, _) (List.mem_singleton_self _); clear hs
      refine at_ret rfl ?_
      try simp only [inBlockE, thenE]
      rw [bits_zero] at hc
      exact ret_one rfl hds ⟨by rw [h2, ← hc]; simp, rfl⟩
    · have e0 : 0 < m := by omega
      have hbm := bits_le (deepOf n)
      have hc2 : c ≤ 200000 := by
        have h1 := bits_le (n - 1)
        have : deepOf n ≤ n := by rw [deepOf, if_neg hz]; omega
        omega
      have e1 : IntKind.i64.wrap ((c : Int) + 1) = (c : Int) + 1 := IntWalk.i64_in _ (by omega)
      refine at_seq rfl fun K14 hK14 => ?_
      refine at_seq rfl fun K15 hK15 => ?_
      (conv => arg 4; whnf)
      refine fw_region_lit rfl ?_
      simp [go_sem, opsF, opF, upF, Region.wanted, Fr.ev, Fr.put, thenE, inBlockE, Oper.semAt, yieldF, h0, h3, e0]
      refine on_kf hK15 [(0, _), (3, _), (9, _)] (fa_cons h0 (fa_cons h3 (fa_cons (by simp [h0, h3, e0] <;> rfl) fa_nil))) hds ?_
      clear hK15 h0 h3 hds; intro s hs hds
      obtain ⟨h0, h3, h9⟩ := facts3 hs; clear hs
      refine at_true 9 rfl h9 ?_
      refine at_skip rfl ?_
      try simp only [inBlockE, thenE]
      refine hK14 _ _ ?_
      clear hK14
      refine at_seq rfl fun K16 hK16 => ?_
      refine at_block 1 rfl ?_
      (conv => arg 4; whnf)
      refine fw_region_lit rfl ?_
      simp [go_sem, opsF, opF, upF, Region.wanted, Fr.ev, Fr.put, thenE, inBlockE, Oper.semAt, yieldF, h0, h3, h9, e1]
      refine on_kf hK16 [(0, _), (3, _)] (fa_cons h0 (fa_cons (by simp [h0, h3, h9, e1] <;> rfl) fa_nil)) hds ?_
      clear hK16 h0 h3 h9 hds; intro s hs hds
      obtain ⟨h0, h3⟩ := facts2 hs; clear hs
      (conv => arg 4; whnf)
      refine fw_region_lit rfl ?_
      simp [go_sem, opsF, opF, upF, Region.wanted, Fr.ev, Fr.put, thenE, inBlockE, Oper.semAt, yieldF, h0, h3, e1]
      have e2 : (m : Int) / 2 = ((m / 2 : Nat) : Int) := by omega
      have e3 : (c : Int) + 1 = ((c + 1 : Nat) : Int) := by omega
      exact ⟨m / 2, by omega, m / 2, c + 1, rfl, by omega, by rw [← hc, bits_half hp]; omega, by rw [← e2]; rfl, by rw [← e3]; exact h3, hds, rfl⟩

theorem heights_any (sb : Nat) (base root target : Int) (lv : Value) (l : List Int) (w : World) (h : SI w sb base root target lv l) (hr : 1 ≤ root) (hl : l.length ≤ 100000) :
    CallsV Try.prog 14 #[.pointer (some ⟨sb, 0, none⟩)] w fun v w' => Row w' 3 1 v l.length (l.map (Value.int .i64)) ∧ New w w' ∧ ∀ k, v.ownBlock = some k → w.heap.size ≤ k := by
  have x3 := h.blk.cell 3
  refine calls_at body14 Try.func14 rfl 10 rfl (by simp) fun s hs hds => ?_
  have h0 := hs 0 _ rfl
  clear hs
  refine at_seq rfl fun K17 hK17 => ?_
  (conv => arg 4; whnf)
  refine fw_region_lit rfl ?_
  simp [go_sem, opsF, opF, upF, Region.wanted, Fr.ev, Fr.put, thenE, inBlockE, Oper.semAt, yieldF, h0]
  refine on_kf hK17 [(0, _)] (fa_cons h0 fa_nil) hds ?_
  clear hK17 h0 hds; intro s hs hds
  have h0 : s.t 0 = _ := hs (0, _) (List.mem_singleton_self _); clear hs
  refine at_seq rfl fun K18 hK18 => ?_
  refine at_seq rfl fun K19 hK19 => ?_
  (conv => arg 4; whnf)
  refine fw_region_lit rfl ?_
  refine ops_take 1 fun KO hKO => ?_
  simp [go_sem, opsF, opF, upF, Region.wanted, Fr.ev, Fr.put, thenE, inBlockE, Oper.semAt, yieldF, h0]
  refine hKO _ _ ?_
  clear hKO
  simp only [List.drop_succ_cons, List.drop_zero]
  refine ops_call rfl rfl rfl call20 (by simp [Fr.ev, h0] <;> rfl) ?_
  refine (none_no sb base root target _ l w h hr).on ?_
  rintro _ w1 ⟨rfl, rfl⟩
  simp [go_sem, opsF, opF, upF, Region.wanted, Fr.ev, Fr.put, thenE, inBlockE, Oper.semAt, yieldF, h0]
  refine on_kf hK19 [(0, _), (4, _)] (fa_cons h0 (fa_cons (by simp [h0] <;> rfl) fa_nil)) hds ?_
  clear hK19 h0 hds; intro s hs hds
  obtain ⟨h0, h4⟩ := facts2 hs; clear hs
  refine at_false 4 rfl h4 ?_
  refine at_skip rfl ?_
  try simp only [inBlockE, thenE]
  refine hK18 _ _ ?_
  clear hK18
  refine at_seq rfl fun K20 hK20 => ?_
  (conv => arg 4; whnf)
  refine fw_region_lit rfl ?_
  refine ops_take 4 fun KO hKO => ?_
  simp [go_sem, opsF, opF, upF, Region.wanted, Fr.ev, Fr.put, thenE, inBlockE, Oper.semAt, yieldF, h0, h4, x3]
  refine hKO _ _ ?_
  clear hKO
  simp only [List.drop_succ_cons, List.drop_zero]
  refine ops_call rfl rfl rfl call8 (by simp [Fr.ev, h0, h4, x3] <;> rfl) ?_
  refine (clone_any lv l _ h.row hl).on ?_
  rintro v w2 ⟨hv, hn, ho⟩
  simp [go_sem, opsF, opF, upF, Region.wanted, Fr.ev, Fr.put, thenE, inBlockE, Oper.semAt, yieldF, h0, h4]
  refine on_kf hK20 [(2, _)] (fa_cons (by simp [h0, h4] <;> rfl) fa_nil) hds ?_
  clear hK20 h0 h4 hds; intro s hs hds
  have h2 : s.t 2 = _ := hs (2, _) (List.mem_singleton_self _); clear hs
  refine at_ret rfl ?_
  try simp only [inBlockE, thenE]
  refine ret_one rfl hds ?_
  rw [h2]
  exact ⟨hv, hn, ho⟩
end Go.Proofs.Ytiejaopidkghdac
