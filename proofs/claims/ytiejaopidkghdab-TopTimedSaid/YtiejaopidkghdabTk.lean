/- The law's first part: clocks. -/
import Derived.Test.YtiejaopidkghdabTj
import Derived.Test.YtiejaopidkghdabKh
namespace Go.Proofs.Ytiejaopidkghdab
set_option linter.unusedSimpArgs false
set_option linter.unusedVariables false
open Go.RowKit Go.Lf

noncomputable def body3 : Code := Try.f3.body.getD .skip

/-- The law's slots in its first part. -/
structure FC (bt : Nat) (x y bad : Int) (e1 e2 e3 : Int) (p6 p7 p8 : Int) (s : Fr) : Prop where
  t6 : s.t 6 = .int .u8 p6
  t7 : s.t 7 = .int .u8 p7
  t8 : s.t 8 = .int .u8 p8
  t19 : s.t 19 = .pointer (some ⟨bt, 0, none⟩)
  t20 : s.t 20 = .int .i64 x
  t21 : s.t 21 = .int .i64 y
  t22 : s.t 22 = .int .i64 bad
  t23 : s.t 23 = .int .i64 e1
  t24 : s.t 24 = .int .i64 e2
  t25 : s.t 25 = .int .i64 e3
  ds : s.ds = []

def loOf (y D : Int) : Int := if 0 ≤ D then max 0 (y - max D 1 + 1) else 0
def fromOf (lo hi : Int) (k : Nat) : Int := if lo < hi ∧ lo < (k : Int) then lo else -1
def toOf (lo hi : Int) (k : Nat) : Int := if lo < hi ∧ lo < (k : Int) then min (k : Int) hi - 1 else -1

theorem fromOf_succ {lo hi : Int} (h : 0 ≤ lo) (k : Nat) : fromOf lo hi (k + 1) = if lo ≤ (k : Int) ∧ (k : Int) < hi then (if fromOf lo hi k < 0 then (k : Int) else fromOf lo hi k) else fromOf lo hi k := by
  unfold fromOf
  have : ((k + 1 : Nat) : Int) = (k : Int) + 1 := by omega
  rw [this]
  split <;> split <;> split <;> (try split) <;> omega

theorem toOf_succ {lo hi : Int} (h : 0 ≤ lo) (k : Nat) : toOf lo hi (k + 1) = if lo ≤ (k : Int) ∧ (k : Int) < hi then (k : Int) else toOf lo hi k := by
  unfold toOf
  have : ((k + 1 : Nat) : Int) = (k : Int) + 1 := by omega
  rw [this]
  split <;> split <;> (try split) <;> omega

theorem fine_iff {x y P D : Int} (now : Int) (hn : 0 ≤ now) : (¬ x + P ≤ now ∧ ¬ (0 ≤ D ∧ now + max D 1 ≤ y)) ↔ (loOf y D ≤ now ∧ now < x + P) := by
  unfold loOf
  split <;> omega

/-- The same in a round. -/
structure FD (bt : Nat) (x y bad : Int) (e1 e2 e3 : Int) (p6 p7 p8 : Int) (fr to now : Int) (s : Fr) : Prop where
  fc : FC bt x y bad e1 e2 e3 p6 p7 p8 s
  t26 : s.t 26 = .int .i64 fr
  t27 : s.t 27 = .int .i64 to
  t28 : s.t 28 = .int .i64 now
  t87 : s.t 87 = .int .i64 now

set_option maxHeartbeats 2000000 in
theorem seg27 (s : Fr) (w : World) (K : Fr → World → Prop) (Q : Exit → Fr → World → Prop) (bt : Nat) (x y bad e1 e2 e3 p6 p7 p8 fr to now look : Int) (o a : Bool)
    (hs : FD bt x y bad e1 e2 e3 p6 p7 p8 fr to now s) (h29 : s.t 29 = .bool o) (h32 : s.t 32 = .bool a) (h33 : s.t 33 = .bool (decide (bad = 0) && o)) (h34 : s.t 34 = .int .i64 bad) (h35 : s.t 35 = .bool (decide (bad = 0) && a)) (h36 : s.t 36 = .int .i64 bad)
    (h37 : s.t 37 = .int .i64 look) (h40 : s.t 40 = .int .i64 look)
    (hK : ∀ s, FD bt x y bad e1 e2 e3 p6 p7 p8 fr to now s → K s w) : FW Try.prog 372 none (sub body3 [0,1,1,1,1,1,1,1,1,1,1,0,0,1,1,0,0,1,0,1,1,1,1,1,1]) (thenE K Q) s w := by
  obtain ⟨⟨h6, h7, h8, h19, h20, h21, h22, h23, h24, h25, hds⟩, h26, h27, h28, h87⟩ := hs
  by_cases hz : bad = 0
  · subst hz
    simp only [decide_true, Bool.true_and] at h33 h35
    refine at_seq rfl fun K1 hK1 => ?_
    (conv => arg 4; whnf)
    refine fw_region_lit rfl ?_
    simp [go_sem, opsF, opF, upF, Region.wanted, Fr.ev, Fr.put, thenE, inBlockE, Oper.semAt, yieldF, h6, h7, h8, h19, h20, h21, h22, h23, h24, h25, h26, h27, h28, h29, h32, h33, h34, h35, h36, h37, h40, h87]
    refine on_kf hK1 [(6, .int .u8 p6), (7, .int .u8 p7), (8, .int .u8 p8), (19, .pointer (some ⟨bt, 0, none⟩)), (20, .int .i64 x), (21, .int .i64 y), (22, .int .i64 0), (23, .int .i64 e1), (24, .int .i64 e2), (25, .int .i64 e3), (26, .int .i64 fr), (27, .int .i64 to), (28, .int .i64 now), (29, .bool o), (32, .bool a), (33, .bool o), (34, .int .i64 0), (35, .bool a), (36, .int .i64 0), (37, .int .i64 look), (40, .int .i64 look), (87, .int .i64 now), (183, .bool false)] (by simp [h6, h7, h8, h19, h20, h21, h22, h23, h24, h25, h26, h27, h28, h29, h32, h33, h34, h35, h36, h37, h40, h87]) hds ?_
    clear hK1 h6 h7 h8 h19 h20 h21 h22 h23 h24 h25 h26 h27 h28 h29 h32 h33 h34 h35 h36 h37 h40 h87 hds; intro s hs hds
    obtain ⟨h6, h7, h8, h19, h20, h21, h22, h23, h24, h25, h26, h27, h28, h29, h32, h33, h34, h35, h36, h37, h40, h87, h183⟩ := facts23 hs; clear hs
    refine at_false 183 rfl h183 ?_
    refine at_skip rfl ?_
    exact hK s ⟨⟨h6, h7, h8, h19, h20, h21, h22, h23, h24, h25, hds⟩, h26, h27, h28, h87⟩
  · have hz' : (bad != 0) = true := by simp [hz]
    have hz2 : (bad == 0) = false := by simp [hz]
    rw [decide_eq_false hz] at h33 h35
    simp only [Bool.false_and] at h33 h35
    refine at_seq rfl fun K2 hK2 => ?_
    (conv => arg 4; whnf)
    refine fw_region_lit rfl ?_
    simp [go_sem, opsF, opF, upF, Region.wanted, Fr.ev, Fr.put, thenE, inBlockE, Oper.semAt, yieldF, h6, h7, h8, h19, h20, h21, h22, h23, h24, h25, h26, h27, h28, h29, h32, h33, h34, h35, h36, h37, h40, h87, hz', hz2]
    refine on_kf hK2 [(6, .int .u8 p6), (7, .int .u8 p7), (8, .int .u8 p8), (19, .pointer (some ⟨bt, 0, none⟩)), (20, .int .i64 x), (21, .int .i64 y), (22, .int .i64 bad), (23, .int .i64 e1), (24, .int .i64 e2), (25, .int .i64 e3), (26, .int .i64 fr), (27, .int .i64 to), (28, .int .i64 now), (29, .bool o), (32, .bool a), (33, .bool false), (34, .int .i64 bad), (35, .bool false), (36, .int .i64 bad), (37, .int .i64 look), (40, .int .i64 look), (87, .int .i64 now), (183, .bool false)] (by simp [h6, h7, h8, h19, h20, h21, h22, h23, h24, h25, h26, h27, h28, h29, h32, h33, h34, h35, h36, h37, h40, h87]) hds ?_
    clear hK2 h6 h7 h8 h19 h20 h21 h22 h23 h24 h25 h26 h27 h28 h29 h32 h33 h34 h35 h36 h37 h40 h87 hds; intro s hs hds
    obtain ⟨h6, h7, h8, h19, h20, h21, h22, h23, h24, h25, h26, h27, h28, h29, h32, h33, h34, h35, h36, h37, h40, h87, h183⟩ := facts23 hs; clear hs
    refine at_false 183 rfl h183 ?_
    refine at_skip rfl ?_
    exact hK s ⟨⟨h6, h7, h8, h19, h20, h21, h22, h23, h24, h25, hds⟩, h26, h27, h28, h87⟩
end Go.Proofs.Ytiejaopidkghdab
