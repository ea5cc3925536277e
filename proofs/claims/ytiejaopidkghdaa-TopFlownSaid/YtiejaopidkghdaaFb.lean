/- Keys; asking and closing. -/
import Derived.Test.YtiejaopidkghdaaFa
namespace Go.Proofs.Ytiejaopidkghdaa
set_option linter.unusedSimpArgs false
set_option linter.unusedVariables false
open Go.RowKit Go.Lf

theorem laidOut : laidOutB Try.prog = true := by kernel_rfl
theorem row53 : (53 : TypeId) < Try.prog.types.size := of_decide_eq_true (by kernel_rfl)
theorem wide53 : (match Try.prog.underlying 53 with | some (.array _ _) | some (.struct _) => true | _ => false) = true := by rw [Try.underlying53]
theorem key53 : Maps.Keyed Try.prog 53 := Maps.Keyed.of_law (deep_law_laid laidOut (m := 2) (by omega) row53 (by kernel_rfl) wide53)
theorem kt53 : Try.prog.keyType 53 = true := by kernel_rfl
theorem cells53 : Try.prog.cellsOf 53 = 2 := by kernel_rfl
theorem cells3 : Try.prog.cellsOf 3 = 1 := by kernel_rfl
theorem size_types : Try.prog.types.size = 77 := by kernel_rfl

/-- The key of a provider and a height. -/
def spot (a b : Int) : Value := .agg #[.int .i64 a, .int .i64 b]

theorem spot_key {a b : Int} (ha : (Lit.int .i64 a).wf = true) (hb : (Lit.int .i64 b).wf = true) : ∃ l, keyOf Try.prog 53 (spot a b) = some l := by
  have h : ∀ d, Try.prog.keyLits (d + 2) 53 [.int .i64 a, .int .i64 b] = some [.int .i64 a, .int .i64 b] := by
    intro d
    simp [Program.keyLits, Try.underlying53, cells53, cells3, Try.underlying3, ha, hb]
  have hf : (spot a b).formed Try.prog 53 = true := by simp [spot, Value.formed, Try.underlying53, cells53]
  unfold keyOf
  rw [Try.underlying53]
  simp only [kt53, hf, Bool.and_self, if_true, size_types]
  exact ⟨_, congrArg (Option.map fun ls => Lit.string (keyBytes ls)) (h 76)⟩

theorem spot_inj {a b c d : Int} (h : spot a b = spot c d) : a = c ∧ b = d := by
  simpa [spot] using h

/-- What the map of a flight must hold. -/
def MapOk (F : Value → Option Value) (l : List Rq) : Prop :=
  ∀ a b v, F (spot a b) = some v ↔ ∃ (i : Nat) (r : Rq), l[i]? = some r ∧ r.op = true ∧ r.to = a ∧ r.h = b ∧ v = .int .i64 ((i : Int) + 1)

/-- A flight, whole; S are its blocks. -/
structure Flight (w : World) (fb : Nat) (N : Int) (l : List Rq) (S : Nat → Prop) : Prop where
  ex : ∃ mb lv F, Fl w fb mb N lv l ∧ MapIs Try.prog 53 w mb F ∧ MapOk F l ∧ S fb ∧ S mb ∧ ∀ k, lv.ownBlock = some k → S k
  lt : ∀ b, S b → b < w.heap.size

theorem Flight.frm {S S' : Nat → Prop} {w w' : World} {fb : Nat} {N : Int} {l : List Rq} (h : Flight w fb N l S) (hf : Frm S' w w') (hn : ∀ b, S b → ¬ S' b) : Flight w' fb N l S := by
  obtain ⟨⟨mb, lv, F, h1, h2, h3, h4, h5, h6⟩, hlt⟩ := h
  exact ⟨⟨mb, lv, F, h1.frm hf (hn _ h4) (fun k hk => hn _ (h6 k hk)), h2.frm hf (hn _ h5), h3, h4, h5, h6⟩, fun b hb => Nat.lt_of_lt_of_le (hlt b hb) hf.size⟩

theorem look_any (fb mb : Nat) (N : Int) (lv : Value) (l : List Rq) (F : Value → Option Value) (to h now : Int) (w : World) (hfl : Fl w fb mb N lv l) (hm : MapIs Try.prog 53 w mb F)
    (hto : (Lit.int .i64 to).wf = true) (hh : (Lit.int .i64 h).wf = true) (hw : to < 0 ∨ N ≤ to ∨ h < 1 ∨ now < 0) (hh2 : h ≤ 1073741824) (hn : now ≤ 1099511627776) :
    CallsV Try.prog 8 #[.pointer (some ⟨fb, 0, none⟩), .int .i64 to, .int .i64 h, .int .i64 now] w fun v w' => v = .tuple #[.int .i64 0, .bool false, .int .i64 3] ∧ New w w' := by
  have c0 : w.cell? ⟨fb, 0, none⟩ = some (.int .i64 N) := hfl.blk.cell 0
  have c2 : w.cell? ⟨fb, 2, none⟩ = some (.map (some mb)) := hfl.blk.cell 2
  have hnn := none_any fb (some mb) w c2
  clear hfl hm hto hh
  by_cases h1 : to < 0
  · go_enter Try.func8, Try.ntmps8
    go_wp2_with (go_at_call 17; refine hnn.mono ?_; rintro e w' ⟨v, rfl, rfl, rfl⟩)
    go_ret3
    exact ⟨_, rfl, rfl, Frm.refl _ _⟩
  · by_cases h2 : N ≤ to
    · go_enter Try.func8, Try.ntmps8
      go_wp2_with (go_at_call 17; refine hnn.mono ?_; rintro e w' ⟨v, rfl, rfl, rfl⟩)
      go_ret3
      exact ⟨_, rfl, rfl, Frm.refl _ _⟩
    · by_cases h3 : h < 1
      · go_enter Try.func8, Try.ntmps8
        go_wp2_with (go_at_call 17; refine hnn.mono ?_; rintro e w' ⟨v, rfl, rfl, rfl⟩)
        go_ret3
        exact ⟨_, rfl, rfl, Frm.refl _ _⟩
      · have h4 : now < 0 := by omega
        clear hw
        go_enter Try.func8, Try.ntmps8
        go_wp2_with (go_at_call 17; refine hnn.mono ?_; rintro e w' ⟨v, rfl, rfl, rfl⟩)
        go_ret3
        exact ⟨_, rfl, rfl, Frm.refl _ _⟩
end Go.Proofs.Ytiejaopidkghdaa
