/- For any numbers and lists the law TopPivoted returns true, and its lists read as they did: the given statement. -/
import Derived.Test.YtiejaopidkghdacPu
import Derived.Test.YtiejaopidkghdacRows
import Derived.WalkKit
import Derived.ProofKit
import Derived.OpenShut
import Derived.ShutString
import Derived.ChangeOld
import Derived.Below
import Derived.Deep.Slices
namespace Go.Proofs.Ytiejaopidkghdac
set_option linter.unusedSimpArgs false
set_option linter.unusedVariables false
open Go.ChangeShapes Go.WideShapes Go.ChangeAt Go.RowKit Go.Lf

theorem own : ownKnob Try.prog.godebug = none := by kernel_rfl
theorem cells31 : Try.prog.cellsOf 31 = 2 := by kernel_rfl
theorem cells22 : Try.prog.cellsOf 22 = 1 := by kernel_rfl

theorem get_range_map {α : Type} (f : Nat → α) (n j : Nat) (h : j < n) : ((List.range n).map f)[j]? = some (f j) := by
  simp [h]

/-- What a list of pairs says, from what was read of it. -/
theorem open_u2 {H : Type} {enc : TypeId × Value → H} {W : World} {fuel : Nat} {a : Option Addr} {len cap : Nat} {x : DataW H × List MemPlace}
    (h : DataW.trod enc Try.prog W 0 (fun _ => true) true fuel 23 [.slice a len cap] = some x) : ∃ zs, IsU2 W (.slice a len cap) zs := by
  rcases Deep.open_slice Try.underlying23 h with ⟨h1, _⟩ | ⟨a', len', cap', m, n, D, Pl, hcs, _, hl, hmax, hm, _, hx⟩
  · simp at h1
    obtain ⟨rfl, rfl, rfl⟩ := h1
    exact ⟨[], .inl ⟨rfl, rfl⟩⟩
  · simp at hcs
    obtain ⟨rfl, rfl, rfl⟩ := hcs
    simp at hm
    subst hm
    have each : ∀ i, i < len → ∃ t : Int × Int, U2ok t ∧ W.cell? (a'.add (i * 2)) = some (.int .u16 t.1) ∧ W.cell? (a'.add (i * 2 + 1)) = some (.int .u16 t.2) := by
      intro i hi
      obtain ⟨cs, c1, c2⟩ := hx i (by omega)
      rw [cells31] at c1
      obtain ⟨_, hlen, hc⟩ := World.cells?_some c1
      obtain ⟨xs, k, _, _, _, hxl, ht⟩ := DataW.trod_array Try.underlying31 c2
      match cs, hlen with
      | [u0, u1], _ =>
        have one : ∀ j u, j < 2 → [u0, u1][j]? = some u → ∃ z : Int, u = .int .u16 z ∧ 0 ≤ z ∧ z ≤ 65535 := by
          intro j u hj hu
          have := ht j hj
          rw [cells22] at this
          have hd : ([u0, u1].drop (j * 1)).take 1 = [u] := by
            obtain rfl | rfl : j = 0 ∨ j = 1 := by omega
            all_goals
              simp at hu
              subst hu
              rfl
          rw [hd] at this
          have hj' : j < xs.length := by omega
          rw [List.getElem?_eq_getElem hj'] at this
          obtain ⟨z, hz, _, hw⟩ := DataW.trod_int Try.underlying22 this
          simp at hz
          exact ⟨z, hz, bounds_u16 hw⟩
        obtain ⟨z0, rfl, p0⟩ := one 0 u0 (by omega) rfl
        obtain ⟨z1, rfl, p1⟩ := one 1 u1 (by omega) rfl
        have g0 := hc 0 (by omega)
        have g1 := hc 1 (by omega)
        rw [Deep.add_add] at g0 g1
        exact ⟨(z0, z1), ⟨p0, p1⟩, by simpa using g0, by simpa using g1⟩
    obtain ⟨f, hf⟩ := Deep.choose_lt each
    refine ⟨(List.range len).map f, .inr ⟨a', m, by simp, by simpa using hl, hmax, ?_, ?_⟩⟩
    · intro j u hu
      have hjl : j < len * 2 := by
        have h1 := (List.getElem?_eq_some_iff.1 hu).1
        rw [u2s_len] at h1
        simpa using h1
      have hj : j = j / 2 * 2 + j % 2 := by omega
      have hi : j / 2 < len := by omega
      rw [hj, u2s, flat_get U2.enc 2 U2.enc_len _ _ _ (Nat.mod_lt _ (by omega)), get_range_map f len _ hi] at hu
      obtain ⟨_, k0, k1⟩ := hf _ hi
      have hcase : j % 2 = 0 ∨ j % 2 = 1 := by omega
      rw [hj]
      rcases hcase with h | h <;> rw [h] at hu ⊢ <;> simp [U2.enc] at hu <;> subst hu <;> simp [k0, k1]
    · intro t ht
      simp at ht
      obtain ⟨i, hi, rfl⟩ := ht
      exact (hf i hi).1

set_option maxRecDepth 100000 in
theorem lifted (os : Os) (started : os.Started) (H : Type) (enc : TypeId × Value → H) :
    ReturnsInHanded {} Try.checked os 3 .any (Rows.topPivotedSpec.pre6 enc Try.prog Try.f3 Rows.topPivotedRow.domain false) (Rows.topPivotedSpec.post enc Try.prog Try.f3 false true false false) := by
  refine returnsInHanded_of_change (C := Try.checked) own started (by kernel_rfl) Try.func3
    (ChangeSpec.witness6 (enc := enc) (C := Try.checked) false ⟨#[], #[.int .u8 0, .int .u16 0, .slice none 0 0, .slice none 0 0, .int .u8 0], []⟩ 8 (by kernel_rfl) (by kernel_rfl) (by kernel_rfl) (by kernel_rfl)) ?_
  intro W base args ds gs before hval0 hW hcnd _
  have hval : ∀ (j : Nat) t v, Try.f3.params[j]? = some t → args[j]? = some v → Value.okWide Try.prog W .any base t v := hval0
  have hW' := hW
  obtain ⟨p, q, hA0, hV, rfl, hfz, hnd⟩ := hW
  have hA : DataW.TrodAll enc Try.prog W 0 (fun _ => true) true Try.f3.params.toList args.toList ds p := hA0
  rw [Try.params3] at hA hval
  obtain ⟨v0, vs0, d0, ds0, p0, q0, hargs, rfl, rfl, h0, r0⟩ := trodAll_cons hA
  obtain ⟨v1, vs1, d1, ds1, p1, q1, rfl, rfl, rfl, h1, r1⟩ := trodAll_cons r0
  obtain ⟨v2, vs2, d2, ds2, p2, q2, rfl, rfl, rfl, h2, r2⟩ := trodAll_cons r1
  obtain ⟨v3, vs3, d3, ds3, p3, q3, rfl, rfl, rfl, h3, r3⟩ := trodAll_cons r2
  obtain ⟨v4, vs4, d4, ds4, p4, q4, rfl, rfl, rfl, h4, r4⟩ := trodAll_cons r3
  obtain ⟨rfl, rfl, rfl⟩ := trodAll_nil r4
  obtain rfl : args = #[v0, v1, v2, v3, v4] := by cases args; simp_all
  obtain ⟨rfl, rfl⟩ := trodVars_none hV
  obtain ⟨a0, rfl, rfl, rfl, w0⟩ := open_int Try.underlying5 (hval 0 5 v0 rfl rfl) h0
  obtain ⟨a1, rfl, rfl, rfl, w1⟩ := open_int Try.underlying22 (hval 1 22 v1 rfl rfl) h1
  obtain ⟨a2, len2, cap2, rfl⟩ := okWide_slice Try.underlying23 (hval 2 23 v2 rfl rfl)
  have k2 := h2
  have lt2 : ∀ x ∈ p2, x.block < W.heap.size := by obtain ⟨m, hm⟩ := k2; exact DataW.trod_lt m _ _ _ hm
  obtain ⟨z2, w2⟩ : ∃ zs, IsU2 W (.slice a2 len2 cap2) zs := by
    obtain ⟨fuel, hf⟩ := h2
    exact open_u2 (by simpa [Value.cells] using hf)
  obtain ⟨a3, len3, cap3, rfl⟩ := okWide_slice Try.underlying23 (hval 3 23 v3 rfl rfl)
  have k3 := h3
  have lt3 : ∀ x ∈ p3, x.block < W.heap.size := by obtain ⟨m, hm⟩ := k3; exact DataW.trod_lt m _ _ _ hm
  obtain ⟨z3, w3⟩ : ∃ zs, IsU2 W (.slice a3 len3 cap3) zs := by
    obtain ⟨fuel, hf⟩ := h3
    exact open_u2 (by simpa [Value.cells] using hf)
  obtain ⟨a4, rfl, rfl, rfl, w4⟩ := open_int Try.underlying5 (hval 4 5 v4 rfl rfl) h4
  clear hA0 hval0
  have b0 := bounds_u8 w0
  have b1 := bounds_u16 w1
  have b4 := bounds_u8 w4
  refine (law_any a0 a1 a4 (.slice a2 len2 cap2) (.slice a3 len3 cap3) z2 z3 W b0 b1 b4 w2 w3).mono fun e W' ⟨v, he, hv, hn⟩ => ?_
  subst he
  subst hv
  have bel : Below W.heap.size W W' := hn.below (fun _ _ h => h)
  exact ⟨_, rfl, _, _, _, [], _, [], hW', trodAll_mk1 (shut_bool Try.underlying4 _), (trodAll_cons_mk (shut_int Try.underlying5 w0) (trodAll_cons_mk (shut_int Try.underlying22 w1) (trodAll_cons_mk (Below.trod laidOut (by kernel_rfl) (of_decide_eq_true (by kernel_rfl)) k2 bel lt2) (trodAll_cons_mk (Below.trod laidOut (by kernel_rfl) (of_decide_eq_true (by kernel_rfl)) k3 bel lt3) (trodAll_cons_mk (shut_int Try.underlying5 w4) trodAll_mk0))))), rfl, bel.frame _, fun h => by cases h⟩

theorem over : Rows.topPivotedRow.holds Try.pinned (OpenSpec.ofChange Rows.topPivotedSpec) :=
  OpenClaim.holds_of_wide 3 Try.f3 rfl rfl rfl rfl rfl rfl rfl ⟨rfl, rfl, rfl, rfl, rfl⟩ rfl rfl rfl rfl rfl (by kernel_rfl) Try.func3 (by kernel_rfl)
    (of_decide_eq_true (by kernel_rfl)) (by unfold Func.isWrapper; first | (rw [if_pos (by decide +kernel)]; kernel_rfl) | (rw [if_neg (by decide +kernel)]; exact ⟨rfl, rfl⟩))
    (fun os started H enc _ => lifted os started H enc)

theorem topPivoted_holds : Rows.TopPivotedSaid := over
#print axioms topPivoted_holds
end Go.Proofs.Ytiejaopidkghdac
