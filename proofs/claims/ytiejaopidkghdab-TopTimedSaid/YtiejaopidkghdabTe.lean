/- sort.Search; a window. -/
import Derived.Test.YtiejaopidkghdabTd
namespace Go.Proofs.Ytiejaopidkghdab
set_option linter.unusedSimpArgs false
set_option linter.unusedVariables false
open Go.RowKit Go.Lf

noncomputable def body24 : Code := Try.f24.body.getD .skip

def SeI (w0 : World) (N : Int) (fv : Value) (p : Int → Bool) (mm : Nat) (s : Fr) (w : World) : Prop :=
  ∃ i j : Int, 0 ≤ i ∧ i ≤ j ∧ j ≤ N ∧ (mm : Int) = j - i ∧ s.ds = [] ∧ s.t 1 = fv ∧ s.t 5 = .int .i64 i ∧ s.t 6 = .int .i64 j ∧ New w0 w ∧ (∀ x, 0 ≤ x → x < i → p x = false) ∧ ∀ x, j ≤ x → x < N → p x = true

theorem search_any (f : Nat) (cap : Array Value) (N : Int) (p : Int → Bool) (w : World) (hN : 0 ≤ N ∧ N ≤ 2199023255552) (hcf : ∀ (args : Array Value) (w : World), (callFunc f args).run Try.prog w = .ok (.enter f args) w)
    (hp : ∀ (x : Int) (w1 : World), New w w1 → 0 ≤ x → x < N → CallsV Try.prog f (#[.int .i64 x] ++ cap) w1 fun v w' => v = .bool (p x) ∧ New w1 w') (hmono : ∀ x y, x ≤ y → p x = true → p y = true) :
    CallsV Try.prog 24 #[.int .i64 N, .func (.func f) #[] cap] w fun v w' => (∃ r, v = .int .i64 r ∧ 0 ≤ r ∧ r ≤ N ∧ (∀ x, 0 ≤ x → x < r → p x = false) ∧ ∀ x, r ≤ x → x < N → p x = true) ∧ New w w' := by
  refine calls_at body24 Try.func24 rfl 26 rfl (by simp) fun s hs hds => ?_
  have h0 := hs 0 _ rfl
  have h1 := hs 1 _ rfl
  clear hs
  refine at_seq rfl fun K1 hK1 => ?_
  (conv => arg 4; whnf)
  refine fw_region_lit rfl ?_
  simp [go_sem, opsF, opF, upF, Region.wanted, Fr.ev, Fr.put, thenE, inBlockE, Oper.semAt, yieldF, h0, h1]
  refine on_kf hK1 [(0, .int .i64 N), (1, .func (.func f) #[] cap)] (by simp [h0, h1]) hds ?_
  clear hK1 h0 h1 hds; intro s hs hds
  obtain ⟨h0, h1⟩ := facts2 hs; clear hs
  refine at_seq rfl fun K2 hK2 => ?_
  (conv => arg 4; whnf)
  refine fw_region_lit rfl ?_
  simp [go_sem, opsF, opF, upF, Region.wanted, Fr.ev, Fr.put, thenE, inBlockE, Oper.semAt, yieldF, h0, h1]
  refine on_kf hK2 [(1, .func (.func f) #[] cap), (5, .int .i64 0), (6, .int .i64 N)] (by simp [h0, h1]) hds ?_
  clear hK2 h0 h1 hds; intro s hs hds
  obtain ⟨h1, h5, h6⟩ := facts3 hs; clear hs
  refine at_seq rfl fun K3 hK3 => ?_
  refine at_block 0 rfl ?_
  refine at_loop rfl (SeI w N (.func (.func f) #[] cap) p) N.toNat ⟨0, N, by omega, hN.1, by omega, by omega, hds, h1, h5, h6, Frm.refl _ _, fun x h1 h2 => by omega, fun x h1 h2 => by omega⟩ ?_
  clear h1 h5 h6 hds s
  rintro mm s w1 ⟨i, j, hi, hij, hj, hmm, hds, h1, h5, h6, hw, hlo, hhi⟩
  by_cases hlt : i < j
  · refine at_seq rfl fun K4 hK4 => ?_
    refine at_seq rfl fun K5 hK5 => ?_
    (conv => arg 4; whnf)
    refine fw_region_lit rfl ?_
    simp [go_sem, opsF, opF, upF, Region.wanted, Fr.ev, Fr.put, thenE, inBlockE, Oper.semAt, yieldF, h1, h5, h6, hlt]
    refine on_kf hK5 [(1, .func (.func f) #[] cap), (5, .int .i64 i), (6, .int .i64 j), (11, .bool true)] (by simp [h1, h5, h6]) hds ?_
    clear hK5 h1 h5 h6 hds; intro s hs hds
    obtain ⟨h1, h5, h6, h11⟩ := facts4 hs; clear hs
    refine at_true 11 rfl h11 ?_
    refine at_skip rfl ?_
    simp only [inBlockE, thenE]
    refine on_kf hK4 [(1, .func (.func f) #[] cap), (5, .int .i64 i), (6, .int .i64 j)] (by simp [h1, h5, h6, h11]) hds ?_
    clear hK4 h1 h5 h6 h11 hds; intro s hs hds
    obtain ⟨h1, h5, h6⟩ := facts3 hs; clear hs
    refine at_block 1 rfl ?_
    have a1 : IntKind.i64.wrap (i + j) = i + j := IntWalk.i64_in _ (by omega)
    have a2 : IntKind.u64.wrap (i + j) = i + j := by simp [IntKind.wrap, IntKind.bits, IntKind.signed]; omega
    have a3 : IntKind.i64.wrap ((i + j) / 2) = (i + j) / 2 := IntWalk.i64_in _ (by omega)
    refine at_seq rfl fun K6 hK6 => ?_
    (conv => arg 4; whnf)
    refine fw_region_lit rfl ?_
    simp [go_sem, opsF, opF, upF, Region.wanted, Fr.ev, Fr.put, thenE, inBlockE, Oper.semAt, yieldF, h1, h5, h6, a1, a2, a3]
    obtain ⟨h, hh⟩ : ∃ h, h = (i + j) / 2 := ⟨_, rfl⟩
    rw [← hh]
    have g1 : i ≤ h := by omega
    have g2 : h < j := by omega
    refine on_kf hK6 [(1, .func (.func f) #[] cap), (5, .int .i64 i), (6, .int .i64 j), (7, .int .i64 h)] (by simp [h1, h5, h6]) hds ?_
    clear hK6 h1 h5 h6 hds; intro s hs hds
    obtain ⟨h1, h5, h6, h7⟩ := facts4 hs; clear hs
    refine at_seq rfl fun K7 hK7 => ?_
    (conv => arg 4; whnf)
    refine fw_region_lit rfl ?_
    simp [go_sem, opsF, opF, upF, Region.wanted, Fr.ev, Fr.put, thenE, inBlockE, Oper.semAt, yieldF, h1, h5, h6, h7, hcf]
    refine (hp h w1 hw (by omega) (by omega)).on ?_
    rintro _ w2 ⟨rfl, hw2⟩
    have hw' := New.trans hw hw2
    simp [go_sem, opsF, opF, upF, Region.wanted, Fr.ev, Fr.put, thenE, inBlockE, Oper.semAt, yieldF, h1, h5, h6, h7]
    cases hph : p h
    · refine on_kf hK7 [(1, .func (.func f) #[] cap), (5, .int .i64 i), (6, .int .i64 j), (7, .int .i64 h), (21, .bool true)] (by simp [h1, h5, h6, h7]) hds ?_
      clear hK7 h1 h5 h6 h7 hds; intro s hs hds
      obtain ⟨h1, h5, h6, h7, h21⟩ := facts5 hs; clear hs
      refine at_true 21 rfl h21 ?_
      have d1 : IntKind.i64.wrap (h + 1) = h + 1 := IntWalk.i64_in _ (by omega)
      (conv => arg 4; whnf)
      refine fw_region_lit rfl ?_
      simp [go_sem, opsF, opF, upF, Region.wanted, Fr.ev, Fr.put, thenE, inBlockE, Oper.semAt, yieldF, h1, h5, h6, h7, h21, d1]
      refine ⟨(j - (h + 1)).toNat, by omega, h + 1, j, by omega, by omega, hj, by omega, by simp [hds], by simp [h1], by simp, by simp [h6], hw', ?_, hhi⟩
      intro x q1 q2
      cases hpx : p x
      · rfl
      · have := hmono x h (by omega) hpx
        rw [hph] at this
        cases this
    · refine on_kf hK7 [(1, .func (.func f) #[] cap), (5, .int .i64 i), (6, .int .i64 j), (7, .int .i64 h), (21, .bool false)] (by simp [h1, h5, h6, h7]) hds ?_
      clear hK7 h1 h5 h6 h7 hds; intro s hs hds
      obtain ⟨h1, h5, h6, h7, h21⟩ := facts5 hs; clear hs
      refine at_false 21 rfl h21 ?_
      (conv => arg 4; whnf)
      refine fw_region_lit rfl ?_
      simp [go_sem, opsF, opF, upF, Region.wanted, Fr.ev, Fr.put, thenE, inBlockE, Oper.semAt, yieldF, h1, h5, h6, h7, h21]
      refine ⟨(h - i).toNat, by omega, i, h, hi, g1, by omega, by omega, by simp [hds], by simp [h1], by simp [h5], by simp, hw', hlo, ?_⟩
      intro x q1 q2
      exact hmono h x q1 hph
  · refine at_seq rfl fun K8 hK8 => ?_
    refine at_seq rfl fun K9 hK9 => ?_
    (conv => arg 4; whnf)
    refine fw_region_lit rfl ?_
    simp [go_sem, opsF, opF, upF, Region.wanted, Fr.ev, Fr.put, thenE, inBlockE, Oper.semAt, yieldF, h1, h5, h6, hlt]
    refine on_kf hK9 [(1, .func (.func f) #[] cap), (5, .int .i64 i), (6, .int .i64 j), (11, .bool false)] (by simp [h1, h5, h6]) hds ?_
    clear hK9 h1 h5 h6 hds; intro s hs hds
    obtain ⟨h1, h5, h6, h11⟩ := facts4 hs; clear hs
    refine at_false 11 rfl h11 ?_
    refine at_exit 0 rfl ?_
    simp only [inBlockE, thenE]
    refine on_kf hK3 [(1, .func (.func f) #[] cap), (5, .int .i64 i)] (by simp [h1, h5, h6, h11]) hds ?_
    clear hK3 h1 h5 h6 h11 hds; intro s hs hds
    obtain ⟨h1, h5⟩ := facts2 hs; clear hs
    refine at_seq rfl fun K10 hK10 => ?_
    (conv => arg 4; whnf)
    refine fw_region_lit rfl ?_
    simp [go_sem, opsF, opF, upF, Region.wanted, Fr.ev, Fr.put, thenE, inBlockE, Oper.semAt, yieldF, h1, h5]
    refine on_kf hK10 [(1, .func (.func f) #[] cap), (4, .int .i64 i), (5, .int .i64 i)] (by simp [h1, h5]) hds ?_
    clear hK10 h1 h5 hds; intro s hs hds
    obtain ⟨h1, h4, h5⟩ := facts3 hs; clear hs
    refine at_ret rfl (ret_one rfl hds ⟨⟨i, h4, hi, by omega, hlo, fun x h1 h2 => hhi x (by omega) h2⟩, hw⟩)
end Go.Proofs.Ytiejaopidkghdab
