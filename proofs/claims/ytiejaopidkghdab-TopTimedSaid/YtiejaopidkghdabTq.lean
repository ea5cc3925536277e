/- The law's waits. -/
import Derived.Test.YtiejaopidkghdabTp
namespace Go.Proofs.Ytiejaopidkghdab
set_option linter.unusedSimpArgs false
set_option linter.unusedVariables false
open Go.RowKit Go.Lf

/-- The law's own wait. -/
def ww (low most : Int) : Nat → Int
  | 0 => low
  | n + 1 => if ww low most n < most then ww low most n * 2 else ww low most n

theorem ww_range {low most : Int} (h : 1 ≤ low ∧ low ≤ most) : ∀ n, 1 ≤ ww low most n ∧ ww low most n ≤ 2 * most
  | 0 => by unfold ww; omega
  | n + 1 => by have := ww_range h n; unfold ww; split <;> omega

theorem ww_min {low most : Int} (h : 1 ≤ low ∧ low ≤ most) : ∀ n, (if most < ww low most n then most else ww low most n) = wv low most n
  | 0 => by unfold ww wv; rw [if_neg (by omega)]
  | n + 1 => by
    have h1 := ww_min h n
    have h2 := ww_range h n
    unfold ww wv
    rw [← h1]
    split <;> split <;> (try split) <;> omega

structure FE (x y low most : Int) (f : Bool) (n : Int) (s : Fr) : Prop where
  t20 : s.t 20 = .int .i64 x
  t21 : s.t 21 = .int .i64 y
  t43 : s.t 43 = .int .i64 low
  t44 : s.t 44 = .int .i64 most
  t47 : s.t 47 = .bool f
  t255 : s.t 255 = .int .i64 n
  ds : s.ds = []
end Go.Proofs.Ytiejaopidkghdab
