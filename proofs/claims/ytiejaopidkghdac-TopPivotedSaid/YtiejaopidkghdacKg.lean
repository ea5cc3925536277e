/- Scopes and labels (no goto). -/
import Derived.Test.YtiejaopidkghdacKd
import Derived.Scope
namespace Go.Lf
set_option linter.unusedSimpArgs false
set_option linter.unusedVariables false
open Go

section
variable {P : Program} {b : Frame} {a : Act} {k : List Item} {cs : List Frame} {w : World}
theorem stepR_scope {c : Code} : step P (lone (b.atR a (.code (.scope c) :: k)) cs w) = .next (lone (b.atR a (.code c :: .inScope c :: k)) cs w) :=
  step_lone_go (by simp [stepG, stepG.exec, Frame.atR])
theorem stepR_inScope {c : Code} : step P (lone (b.atR a (.inScope c :: k)) cs w) = .next (lone (b.atR a k) cs w) :=
  step_lone_go (by simp [stepG, stepG.exec, Frame.atR])

theorem wpIn_scope {F : Fence} {n : Nat} {Q : Exit → Act → World → Prop} {c : Code} (h : c.wpIn F n P (Exit.noGoto Q) a w) : (Code.scope c).wpIn F n P Q a w := by
  intro b k cs hro hb hr
  have h0 : (lone (b.atR a (.code (.scope c) :: k)) cs w).fenced P F := fenced_calm hb hr rfl
  obtain ⟨e, a₁, w₁, hq, harr⟩ := h b (.inScope c :: k) cs hro hb hr
  cases e with
  | normal => exact ⟨.normal, a₁, w₁, hq, .head h0 stepR_scope (StepsIn.trans harr (.one (fenced_calm hb hr rfl) stepR_inScope))⟩
  | exit id' =>
    have hx : exitTo id' (.inScope c :: k) = exitTo id' k := by simp [exitTo]
    exact ⟨.exit id', a₁, w₁, hq, fun k' hk => .head h0 stepR_scope (harr.1 k' (by rw [hx]; exact hk)),
      fun hr' hk => let ⟨k₁, h1, h2⟩ := harr.2 hr' (by rw [hx]; exact hk); ⟨k₁, h1, .head h0 stepR_scope h2⟩⟩
  | goto l => exact hq.elim
  | ret => exact ⟨_, a₁, w₁, hq, .of_steps (.one h0 stepR_scope) harr⟩
  | panic ch => exact ⟨_, a₁, w₁, hq, .of_steps (.one h0 stepR_scope) harr⟩
  | outgrown => exact ⟨_, a₁, w₁, hq, .of_steps (.one h0 stepR_scope) harr⟩
end

def noGotoE (Q : Exit → Fr → World → Prop) : Exit → Fr → World → Prop
  | .goto _, _, _ => False
  | e, s, w => Q e s w

def isScope : Code → Bool | .scope _ => true | _ => false
def isLabel : Code → Bool | .label _ => true | _ => false

section
variable {P : Program} {n : Nat} {ro : Option Nat} {Q : Exit → Fr → World → Prop} {s : Fr} {w : World} {b : Code} {p : List Nat}
theorem fw_scope {c : Code} (h : FW P n ro c (noGotoE Q) s w) : FW P n ro (.scope c) Q s w :=
  fun a ha => wpIn_scope (wpIn_mono (h a ha) fun e a' w' ⟨s', hs, q⟩ => by
    cases e with
    | goto l => exact q.elim
    | normal => exact ⟨s', hs, q⟩
    | exit id => exact ⟨s', hs, q⟩
    | ret => exact ⟨s', hs, q⟩
    | panic ch => exact ⟨s', hs, q⟩
    | outgrown => exact ⟨s', hs, q⟩)
theorem at_scope (h : isScope (sub b p) = true) (h1 : FW P n ro (sub b (0 :: p)) (noGotoE Q) s w) : FW P n ro (sub b p) Q s w := by
  simp only [sub] at h1
  revert h h1
  cases sub b p <;> intro h h1 <;> first | (cases h; done) | exact fw_scope h1
theorem at_label (h : isLabel (sub b p) = true) (h1 : Q .normal s w) : FW P n ro (sub b p) Q s w := by
  revert h
  cases sub b p <;> intro h <;> first | (cases h; done) | exact fw_label h1
end
end Go.Lf
