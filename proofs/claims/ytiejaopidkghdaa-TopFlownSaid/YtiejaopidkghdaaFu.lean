/- The given statement. -/
import Derived.Test.YtiejaopidkghdaaFt
import Derived.Test.YtiejaopidkghdaaRows
import Derived.WalkKit
import Derived.ProofKit
import Derived.OpenShut
import Derived.ShutString
import Derived.ChangeOld
import Derived.Below
import Derived.Deep.Slices
namespace Go.Proofs.Ytiejaopidkghdaa
set_option linter.unusedSimpArgs false
set_option linter.unusedVariables false
open Go.ChangeShapes Go.WideShapes Go.ChangeAt Go.RowKit Go.Lf

theorem own : ownKnob Try.prog.godebug = none := by kernel_rfl
theorem cells28 : Try.prog.cellsOf 28 = 3 := by kernel_rfl
theorem cells5 : Try.prog.cellsOf 5 = 1 := by kernel_rfl

instance : Inhabited T3 := ⟨⟨0, 0, 0⟩⟩

theorem get_range_map {α : Type} (f : Nat → α) (n j : Nat) (h : j < n) : ((List.range n).map f)[j]? = some (f j) := by
  simp [h]

/-- What the list of a call says, from what was read of it. -/
theorem open_tri {H : Type} {enc : TypeId × Value → H} {W : World} {fuel : Nat} {a : Option Addr} {len cap : Nat} {x : DataW H × List MemPlace}
    (h : DataW.trod enc Try.prog W 0 (fun _ => true) true fuel 22 [.slice a len cap] = some x) : ∃ zs, IsTri W (.slice a len cap) zs := by
  rcases Deep.open_slice Try.underlying22 h with ⟨h1, _⟩ | ⟨a', len', cap', m, n, D, Pl, hcs, _, hl, hmax, hm, _, hx⟩
  · simp at h1
    obtain ⟨rfl, rfl, rfl⟩ := h1
    exact ⟨[], .inl ⟨rfl, rfl⟩⟩
  · simp at hcs
    obtain ⟨rfl, rfl, rfl⟩ := hcs
    simp at hm
    subst hm
    have each : ∀ i, i < len → ∃ t : T3, t.ok ∧ W.cell? (a'.add (i * 3)) = some (.int .u8 t.x) ∧ W.cell? (a'.add (i * 3 + 1)) = some (.int .u8 t.y) ∧ W.cell? (a'.add (i * 3 + 2)) = some (.int .u8 t.z) := by
      intro i hi
      obtain ⟨cs, c1, c2⟩ := hx i (by omega)
      rw [cells28] at c1
      obtain ⟨_, hlen, hc⟩ := World.cells?_some c1
      obtain ⟨xs, k, _, _, _, hxl, ht⟩ := DataW.trod_array Try.underlying28 c2
      match cs, hlen with
      | [u0, u1, u2], _ =>
        have one : ∀ j u, j < 3 → [u0, u1, u2][j]? = some u → ∃ z : Int, u = .int .u8 z ∧ 0 ≤ z ∧ z ≤ 255 := by
          intro j u hj hu
          have := ht j hj
          rw [cells5] at this
          have hd : ([u0, u1, u2].drop (j * 1)).take 1 = [u] := by
            obtain rfl | rfl | rfl : j = 0 ∨ j = 1 ∨ j = 2 := by omega
            all_goals
              simp at hu
              subst hu
              rfl
          rw [hd] at this
          have hj' : j < xs.length := by omega
          rw [List.getElem?_eq_getElem hj'] at this
          obtain ⟨z, hz, _, hw⟩ := DataW.trod_int Try.underlying5 this
          simp at hz
          exact ⟨z, hz, bounds_u8 hw⟩
        obtain ⟨z0, rfl, p0⟩ := one 0 u0 (by omega) rfl
        obtain ⟨z1, rfl, p1⟩ := one 1 u1 (by omega) rfl
        obtain ⟨z2, rfl, p2⟩ := one 2 u2 (by omega) rfl
        have g0 := hc 0 (by omega)
        have g1 := hc 1 (by omega)
        have g2 := hc 2 (by omega)
        rw [Deep.add_add] at g0 g1 g2
        exact ⟨⟨z0, z1, z2⟩, ⟨p0, p1, p2⟩, by simpa using g0, by simpa using g1, by simpa using g2⟩
    obtain ⟨f, hf⟩ := Deep.choose_lt each
    refine ⟨(List.range len).map f, .inr ⟨a', m, by simp, by simpa using hl, hmax, ?_, ?_⟩⟩
    · intro j u hu
      have hjl : j < len * 3 := by
        have h1 := (List.getElem?_eq_some_iff.1 hu).1
        rw [flat_length T3.enc 3 T3.enc_len] at h1
        simpa using h1
      have hj : j = j / 3 * 3 + j % 3 := by omega
      have hi : j / 3 < len := by omega
      rw [hj, flat_get T3.enc 3 T3.enc_len _ _ _ (Nat.mod_lt _ (by omega)), get_range_map f len _ hi] at hu
      obtain ⟨_, k0, k1, k2⟩ := hf _ hi
      have hcase : j % 3 = 0 ∨ j % 3 = 1 ∨ j % 3 = 2 := by omega
      rw [hj]
      rcases hcase with h | h | h <;> rw [h] at hu ⊢ <;> simp [T3.enc] at hu <;> subst hu <;> simp [k0, k1, k2]
    · intro t ht
      simp at ht
      obtain ⟨i, hi, rfl⟩ := ht
      exact (hf i hi).1

set_option maxRecDepth 100000 in
theorem lifted (os : Os) (started : os.Started) (H : Type) (enc : TypeId × Value → H) :
    ReturnsInHanded {} Try.checked os 3 .any (Rows.topFlownSpec.pre6 enc Try.prog Try.f3 Rows.topFlownRow.domain false) (Rows.topFlownSpec.post enc Try.prog Try.f3 false true false false) := by
  refine returnsInHanded_of_change (C := Try.checked) own started (by kernel_rfl) Try.func3
    (ChangeSpec.witness6 (enc := enc) (C := Try.checked) false ⟨#[], #[.int .u8 0, .slice none 0 0], []⟩ 8 (by kernel_rfl) (by kernel_rfl) (by kernel_rfl) (by kernel_rfl)) ?_
  intro W base args ds gs before hval0 hW hcnd _
  have hval : ∀ (j : Nat) t v, Try.f3.params[j]? = some t → args[j]? = some v → Value.okWide Try.prog W .any base t v := hval0
  have hW' := hW
  obtain ⟨p, q, hA0, hV, rfl, hfz, hnd⟩ := hW
  have hA : DataW.TrodAll enc Try.prog W 0 (fun _ => true) true Try.f3.params.toList args.toList ds p := hA0
  rw [Try.params3] at hA hval
  obtain ⟨v0, vs0, d0, ds0, p0, q0, hargs, rfl, rfl, h0, r0⟩ := trodAll_cons hA
  obtain ⟨v1, vs1, d1, ds1, p1, q1, rfl, rfl, rfl, h1, r1⟩ := trodAll_cons r0
  obtain ⟨rfl, rfl, rfl⟩ := trodAll_nil r1
  obtain rfl : args = #[v0, v1] := by cases args; simp_all
  obtain ⟨rfl, rfl⟩ := trodVars_none hV
  obtain ⟨a0, rfl, rfl, rfl, w0⟩ := open_int Try.underlying5 (hval 0 5 v0 rfl rfl) h0
  obtain ⟨a1, len1, cap1, rfl⟩ := okWide_slice Try.underlying22 (hval 1 22 v1 rfl rfl)
  have k1 := h1
  have lt1 : ∀ x ∈ p1, x.block < W.heap.size := by obtain ⟨m, hm⟩ := k1; exact DataW.trod_lt m _ _ _ hm
  obtain ⟨z1, w1⟩ : ∃ zs, IsTri W (.slice a1 len1 cap1) zs := by
    obtain ⟨fuel, hf⟩ := h1
    exact open_tri (by simpa [Value.cells] using hf)
  clear hA0 hval0
  have b0 := bounds_u8 w0
  refine (law_any a0 (.slice a1 len1 cap1) z1 W b0 w1).mono fun e W' ⟨v, he, hv, hn⟩ => ?_
  subst he
  subst hv
  have bel : Below W.heap.size W W' := hn.below (fun _ _ h => h)
  exact ⟨_, rfl, _, _, _, [], _, [], hW', trodAll_mk1 (shut_bool Try.underlying4 _), (trodAll_cons_mk (shut_int Try.underlying5 w0) (trodAll_cons_mk (Below.trod laidOut (by kernel_rfl) (of_decide_eq_true (by kernel_rfl)) k1 bel lt1) trodAll_mk0)), rfl, bel.frame _, fun h => by cases h⟩

theorem over : Rows.topFlownRow.holds Try.pinned (OpenSpec.ofChange Rows.topFlownSpec) :=
  OpenClaim.holds_of_wide 3 Try.f3 rfl rfl rfl rfl rfl rfl rfl ⟨rfl, rfl, rfl, rfl, rfl⟩ rfl rfl rfl rfl rfl (by kernel_rfl) Try.func3 (by kernel_rfl)
    (of_decide_eq_true (by kernel_rfl)) (by unfold Func.isWrapper; first | (rw [if_pos (by decide +kernel)]; kernel_rfl) | (rw [if_neg (by decide +kernel)]; exact ⟨rfl, rfl⟩))
    (fun os started H enc _ => lifted os started H enc)

theorem topFlown_holds : Rows.TopFlownSaid := over
#print axioms topFlown_holds
end Go.Proofs.Ytiejaopidkghdaa
