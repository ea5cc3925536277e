/- Terms, clocks: what is wrong with terms. -/
import Derived.Test.YtiejaopidkghdabKf
import Derived.Test.YtiejaopidkghdabKe
import Derived.Test.YtiejaopidkghdabProg
import Derived.WalkKit
import Derived.Lib.Hide
namespace Go.Proofs.Ytiejaopidkghdab
set_option linter.unusedSimpArgs false
set_option linter.unusedVariables false
open Go.RowKit Go.Lf

theorem New.trans {a b c : World} (h : New a b) (k : New b c) : New a c := Frm.trans h k (fun _ _ h => h)

structure B3 where
  n : Int
  lo : Int
  hi : Int
def B3.enc (b : B3) : List Value := [.int .i64 b.n, .int .i64 b.lo, .int .i64 b.hi]
theorem B3.enc_len (b : B3) : b.enc.length = 3 := rfl
def B3.agg (b : B3) : Value := .agg #[.int .i64 b.n, .int .i64 b.lo, .int .i64 b.hi]
def B3.fine (b : B3) : Bool := decide (b.lo ≤ b.n) && decide (b.n ≤ b.hi)

noncomputable def body25 : Code := Try.f25.body.getD .skip

theorem fine_any (b : B3) (w : World) : CallsV Try.prog 25 #[b.agg] w fun v w' => v = .bool b.fine ∧ New w w' := by
  obtain ⟨n, lo, hi⟩ := b
  refine calls_at body25 Try.func25 rfl 15 rfl (by simp) fun s hs hds => ?_
  have h0 := hs 0 _ rfl
  clear hs
  unfold B3.agg at h0
  have hb := Blk.new w #[.int .i64 n, .int .i64 lo, .int .i64 hi] 47
  have hA := Frm.alloc (fun _ => False) w (.cells #[.int .i64 n, .int .i64 lo, .int .i64 hi] 47)
  refine at_seq rfl fun K1 hK1 => ?_
  (conv => arg 4; whnf)
  refine fw_region_lit rfl ?_
  simp [go_sem, opsF, opF, upF, Region.wanted, Fr.ev, Fr.put, thenE, inBlockE, Oper.semAt, yieldF, h0]
  refine on_kf hK1 [(1, .pointer (some ⟨w.heap.size, 0, none⟩))] (by simp [h0]) hds ?_
  clear hK1 h0 hds; intro s hs hds
  have h1 : s.t 1 = .pointer (some ⟨w.heap.size, 0, none⟩) := hs (1, _) (List.mem_singleton_self _); clear hs
  generalize w.alloc (.cells #[.int .i64 n, .int .i64 lo, .int .i64 hi] 47) = w1 at *
  generalize w.heap.size = bx at *
  have x0 := hb.cell 0
  have x1 := hb.cell 1
  have x2 := hb.cell 2
  simp only [List.getElem?_toArray, List.getElem?_cons_zero, List.getElem?_cons_succ] at x0 x1 x2
  refine at_seq rfl fun K2 hK2 => ?_
  by_cases d : lo ≤ n
  · (conv => arg 4; whnf)
    refine fw_region_lit rfl ?_
    simp [go_sem, opsF, opF, upF, Region.wanted, Fr.ev, Fr.put, thenE, inBlockE, Oper.semAt, yieldF, h1, x0, x1, x2, d]
    refine on_kf hK2 [(1, .pointer (some ⟨bx, 0, none⟩)), (2, .bool (decide (n ≤ hi)))] (by simp [h1]) hds ?_
    clear hK2 h1 hds; intro s hs hds
    obtain ⟨h1, h2⟩ := facts2 hs; clear hs
    refine at_ret rfl (ret_one rfl hds ⟨?_, hA⟩)
    rw [h2]
    simp [B3.fine, d]
  · (conv => arg 4; whnf)
    refine fw_region_lit rfl ?_
    simp [go_sem, opsF, opF, upF, Region.wanted, Fr.ev, Fr.put, thenE, inBlockE, Oper.semAt, yieldF, h1, x0, x1, x2, d]
    refine on_kf hK2 [(1, .pointer (some ⟨bx, 0, none⟩)), (2, .bool false)] (by simp [h1]) hds ?_
    clear hK2 h1 hds; intro s hs hds
    obtain ⟨h1, h2⟩ := facts2 hs; clear hs
    refine at_ret rfl (ret_one rfl hds ⟨?_, hA⟩)
    rw [h2]
    simp [B3.fine, d]

def badOf (P D m d : Int) : Int := if P < 1 ∨ D < 0 ∨ d < 1 ∨ m < 1 ∨ d < m then 3 else if 3 * m < d then 2 else 0
def tv (P D m d : Int) : Value := .agg #[.int .i64 P, .int .i64 D, .int .i64 m, .int .i64 d]
def bnds (P D m d : Int) : List B3 := [⟨P, 1, 1099511627776⟩, ⟨D, 0, 1099511627776⟩, ⟨d, 1, 100⟩, ⟨m, 1, d⟩]

noncomputable def body7 : Code := Try.f7.body.getD .skip

def ChI (w0 : World) (bt g : Nat) (bs : List B3) (m : Nat) (s : Fr) (w : World) : Prop :=
  ∃ i : Nat, i ≤ 4 ∧ m = 4 - i ∧ s.ds = [] ∧ s.t 1 = .pointer (some ⟨bt, 0, none⟩) ∧ s.t 19 = .slice (some ⟨g, 0, none⟩) 4 4 ∧ s.t 20 = .int .i64 4 ∧ s.t 21 = .int .i64 (i : Int) ∧ New w0 w ∧ ∀ x ∈ bs.take i, x.fine = true

set_option maxHeartbeats 1000000 in
theorem check_any (P D m d : Int) (w : World) (hP : 0 ≤ P ∧ P ≤ 1000) (hD : -1 ≤ D ∧ D ≤ 1000) (hm : 0 ≤ m ∧ m ≤ 100) (hd : 0 ≤ d ∧ d ≤ 100) :
    CallsV Try.prog 7 #[tv P D m d] w fun v w' => v = .int .i64 (badOf P D m d) ∧ New w w' := by
  refine calls_at body7 Try.func7 rfl 35 rfl (by simp) fun s hs hds => ?_
  have h0 := hs 0 _ rfl
  clear hs
  unfold tv at h0
  have hb := Blk.new w #[.int .i64 P, .int .i64 D, .int .i64 m, .int .i64 d] 24
  have hA := Frm.alloc (fun _ => False) w (.cells #[.int .i64 P, .int .i64 D, .int .i64 m, .int .i64 d] 24)
  refine at_seq rfl fun K3 hK3 => ?_
  (conv => arg 4; whnf)
  refine fw_region_lit rfl ?_
  simp [go_sem, opsF, opF, upF, Region.wanted, Fr.ev, Fr.put, thenE, inBlockE, Oper.semAt, yieldF, h0]
  refine on_kf hK3 [(1, .pointer (some ⟨w.heap.size, 0, none⟩))] (by simp [h0]) hds ?_
  clear hK3 h0 hds; intro s hs hds
  have h1 : s.t 1 = .pointer (some ⟨w.heap.size, 0, none⟩) := hs (1, _) (List.mem_singleton_self _); clear hs
  generalize w.alloc (.cells #[.int .i64 P, .int .i64 D, .int .i64 m, .int .i64 d] 24) = w1 at *
  generalize w.heap.size = bt at *
  have x0 := hb.cell 0
  have x1 := hb.cell 1
  have x2 := hb.cell 2
  have x3 := hb.cell 3
  simp only [List.getElem?_toArray, List.getElem?_cons_zero, List.getElem?_cons_succ] at x0 x1 x2 x3
  refine at_seq rfl fun K4 hK4 => ?_
  refine at_seq rfl fun K5 hK5 => ?_
  (conv => arg 4; whnf)
  refine fw_region_lit rfl ?_
  simp [go_sem, opsF, opF, upF, Region.wanted, Fr.ev, Fr.put, thenE, inBlockE, Oper.semAt, yieldF, h1, x0, x1, x2, x3]
  have hb2 := Blk.new w1 ((bnds P D m d).flatMap B3.enc).toArray 47
  have hA2 := Frm.alloc (fun _ => False) w1 (.cells ((bnds P D m d).flatMap B3.enc).toArray 47)
  change K5 _ (w1.alloc (.cells ((bnds P D m d).flatMap B3.enc).toArray 47))
  refine on_kf hK5 [(1, .pointer (some ⟨bt, 0, none⟩)), (19, .slice (some ⟨w1.heap.size, 0, none⟩) 4 4), (20, .int .i64 4), (21, .int .i64 ((0 : Nat) : Int))] (by simp [h1]) hds ?_
  clear hK5 h1 hds; intro s hs hds
  obtain ⟨h1, h19, h20, h21⟩ := facts4 hs; clear hs
  have hnw := New.trans hA hA2
  have hbt := hb.frm hA2 (fun h => h)
  clear hb hA hA2 x0 x1 x2 x3
  generalize w1.alloc (.cells ((bnds P D m d).flatMap B3.enc).toArray 47) = w2 at *
  generalize w1.heap.size = g at *
  refine at_block 0 rfl ?_
  refine at_loop rfl (ChI w2 bt g (bnds P D m d)) 4 ⟨0, by omega, by omega, hds, h1, h19, h20, h21, Frm.refl _ _, by simp⟩ ?_
  clear h1 h19 h20 h21 hds s
  rintro mm s w3 ⟨i, hi, rfl, hds, h1, h19, h20, h21, hw, hfi⟩
  by_cases hlt : i < 4
  · have d0 : (i : Int) < 4 := by omega
    refine at_seq rfl fun K6 hK6 => ?_
    (conv => arg 4; whnf)
    refine fw_region_lit rfl ?_
    simp [go_sem, opsF, opF, upF, Region.wanted, Fr.ev, Fr.put, thenE, inBlockE, Oper.semAt, yieldF, h1, h19, h20, h21, d0]
    refine on_kf hK6 [(1, .pointer (some ⟨bt, 0, none⟩)), (19, .slice (some ⟨g, 0, none⟩) 4 4), (20, .int .i64 4), (21, .int .i64 (i : Int)), (22, .bool true)] (by simp [h1, h19, h20, h21]) hds ?_
    clear hK6 h1 h19 h20 h21 hds; intro s hs hds
    obtain ⟨h1, h19, h20, h21, h22⟩ := facts5 hs; clear hs
    refine at_seq rfl fun K7 hK7 => ?_
    refine at_true 22 rfl h22 ?_
    refine at_skip rfl ?_
    simp only [inBlockE, thenE]
    refine on_kf hK7 [(1, .pointer (some ⟨bt, 0, none⟩)), (19, .slice (some ⟨g, 0, none⟩) 4 4), (20, .int .i64 4), (21, .int .i64 (i : Int))] (by simp [h1, h19, h20, h21, h22]) hds ?_
    clear hK7 h1 h19 h20 h21 h22 hds; intro s hs hds
    obtain ⟨h1, h19, h20, h21⟩ := facts4 hs; clear hs
    refine at_seq rfl fun K8 hK8 => ?_
    refine at_block 1 rfl ?_
    obtain ⟨b, hbi⟩ : ∃ b, (bnds P D m d)[i]? = some b := ⟨(bnds P D m d)[i]'(by simpa [bnds] using hlt), by simp [bnds, hlt]⟩
    have hg3 := hb2.frm hw (fun h => h)
    have get : ∀ j, j < 3 → w3.cell? ⟨g, i * 3 + j, none⟩ = (b.enc)[j]? := by
      intro j hj
      rw [hg3.cell, List.getElem?_toArray, flat_get B3.enc 3 B3.enc_len _ i j hj, hbi]
      rfl
    have e0 : w3.cell? ⟨g, i * 3, none⟩ = some (.int .i64 b.n) := get 0 (by omega)
    have e1 : w3.cell? ⟨g, i * 3 + 1, none⟩ = some (.int .i64 b.lo) := get 1 (by omega)
    have e2 : w3.cell? ⟨g, i * 3 + 2, none⟩ = some (.int .i64 b.hi) := get 2 (by omega)
    refine at_seq rfl fun K9 hK9 => ?_
    (conv => arg 4; whnf)
    refine fw_region_lit rfl ?_
    simp [go_sem, opsF, opF, upF, Region.wanted, Fr.ev, Fr.put, thenE, inBlockE, Oper.semAt, yieldF, h1, h19, h20, h21, d0, e0, e1, e2]
    have hA := Frm.alloc (fun _ => False) w3 (.cells #[.int .i64 b.n, .int .i64 b.lo, .int .i64 b.hi] 47)
    have hx := Blk.new w3 #[.int .i64 b.n, .int .i64 b.lo, .int .i64 b.hi] 47
    refine on_kf hK9 [(1, .pointer (some ⟨bt, 0, none⟩)), (4, .pointer (some ⟨w3.heap.size, 0, none⟩)), (19, .slice (some ⟨g, 0, none⟩) 4 4), (20, .int .i64 4), (21, .int .i64 (i : Int))] (by simp [h1, h19, h20, h21]) hds ?_
    clear hK9 h1 h19 h20 h21 hds; intro s hs hds
    obtain ⟨h1, h4, h19, h20, h21⟩ := facts5 hs; clear hs
    generalize w3.alloc (.cells #[.int .i64 b.n, .int .i64 b.lo, .int .i64 b.hi] 47) = w4 at *
    generalize w3.heap.size = bx at *
    have x0 := hx.cell 0
    have x1 := hx.cell 1
    have x2 := hx.cell 2
    simp only [List.getElem?_toArray, List.getElem?_cons_zero, List.getElem?_cons_succ] at x0 x1 x2
    refine at_seq rfl fun K10 hK10 => ?_
    (conv => arg 4; whnf)
    refine fw_region_lit rfl ?_
    simp [go_sem, opsF, opF, upF, Region.wanted, Fr.ev, Fr.put, thenE, inBlockE, Oper.semAt, yieldF, h1, h4, h19, h20, h21, x0, x1, x2]
    refine (fine_any b w4).on ?_
    rintro _ w5 ⟨rfl, hw5⟩
    have hw25 := New.trans (New.trans hw hA) hw5
    simp [go_sem, opsF, opF, upF, Region.wanted, Fr.ev, Fr.put, thenE, inBlockE, Oper.semAt, yieldF, h1, h4, h19, h20, h21]
    cases hbf : b.fine
    · refine on_kf hK10 [(1, .pointer (some ⟨bt, 0, none⟩)), (4, .pointer (some ⟨bx, 0, none⟩)), (19, .slice (some ⟨g, 0, none⟩) 4 4), (20, .int .i64 4), (21, .int .i64 (i : Int)), (27, .bool true)] (by simp [h1, h4, h19, h20, h21]) hds ?_
      clear hK10 h1 h4 h19 h20 h21 hds; intro s hs hds
      obtain ⟨h1, h4, h19, h20, h21, h27⟩ := facts6 hs; clear hs
      refine at_true 27 rfl h27 ?_
      refine at_seq rfl fun K11 hK11 => ?_
      (conv => arg 4; whnf)
      refine fw_region_lit rfl ?_
      simp [go_sem, opsF, opF, upF, Region.wanted, Fr.ev, Fr.put, thenE, inBlockE, Oper.semAt, yieldF, h1, h4, h19, h20, h21, h27]
      refine on_kf hK11 [(1, .pointer (some ⟨bt, 0, none⟩)), (2, .int .i64 3), (4, .pointer (some ⟨bx, 0, none⟩)), (19, .slice (some ⟨g, 0, none⟩) 4 4), (20, .int .i64 4), (21, .int .i64 (i : Int)), (27, .bool true)] (by simp [h1, h4, h19, h20, h21, h27]) hds ?_
      clear hK11 h1 h4 h19 h20 h21 h27 hds; intro s hs hds
      obtain ⟨h1, h2, h4, h19, h20, h21, h27⟩ := facts7 hs; clear hs
      refine at_ret rfl ?_
      simp only [inBlockE, thenE]
      refine ret_one rfl hds ⟨?_, New.trans hnw hw25⟩
      rw [h2]
      have hcase : i = 0 ∨ i = 1 ∨ i = 2 ∨ i = 3 := by omega
      have hb : badOf P D m d = 3 := by
        unfold badOf
        rw [if_pos]
        rcases hcase with rfl | rfl | rfl | rfl <;> simp [bnds] at hbi <;> subst hbi <;> simp [B3.fine] at hbf <;> omega
      rw [hb]
    · refine on_kf hK10 [(1, .pointer (some ⟨bt, 0, none⟩)), (19, .slice (some ⟨g, 0, none⟩) 4 4), (20, .int .i64 4), (21, .int .i64 (i : Int)), (27, .bool false)] (by simp [h1, h4, h19, h20, h21]) hds ?_
      clear hK10 h1 h4 h19 h20 h21 hds; intro s hs hds
      obtain ⟨h1, h19, h20, h21, h27⟩ := facts5 hs; clear hs
      refine at_false 27 rfl h27 ?_
      refine at_skip rfl ?_
      simp only [inBlockE, thenE]
      have d1 : IntKind.i64.wrap ((i : Int) + 1) = (i : Int) + 1 := IntWalk.i64_in _ (by omega)
      refine on_kf hK8 [(1, .pointer (some ⟨bt, 0, none⟩)), (19, .slice (some ⟨g, 0, none⟩) 4 4), (20, .int .i64 4), (21, .int .i64 (i : Int))] (by simp [h1, h19, h20, h21, h27]) hds ?_
      clear hK8 h1 h19 h20 h21 h27 hds; intro s hs hds
      obtain ⟨h1, h19, h20, h21⟩ := facts4 hs; clear hs
      (conv => arg 4; whnf)
      refine fw_region_lit rfl ?_
      simp [go_sem, opsF, opF, upF, Region.wanted, Fr.ev, Fr.put, thenE, inBlockE, Oper.semAt, yieldF, h1, h19, h20, h21, d1]
      refine ⟨4 - (i + 1), by omega, i + 1, by omega, rfl, by simp [hds], by simp [h1], by simp [h19], by simp [h20], by simp, hw25, ?_⟩
      intro x hx
      rw [List.take_add_one, hbi] at hx
      simp only [Option.toList_some, List.mem_append, List.mem_singleton] at hx
      rcases hx with hx | rfl
      · exact hfi x hx
      · exact hbf
  · have d0 : ¬ (i : Int) < 4 := by omega
    have hall : ∀ x ∈ bnds P D m d, x.fine = true := by
      have : (bnds P D m d).take i = bnds P D m d := List.take_of_length_le (by simp [bnds]; omega)
      rw [this] at hfi
      exact hfi
    refine at_seq rfl fun K12 hK12 => ?_
    (conv => arg 4; whnf)
    refine fw_region_lit rfl ?_
    simp [go_sem, opsF, opF, upF, Region.wanted, Fr.ev, Fr.put, thenE, inBlockE, Oper.semAt, yieldF, h1, h19, h20, h21, d0]
    refine on_kf hK12 [(1, .pointer (some ⟨bt, 0, none⟩)), (19, .slice (some ⟨g, 0, none⟩) 4 4), (20, .int .i64 4), (21, .int .i64 (i : Int)), (22, .bool false)] (by simp [h1, h19, h20, h21]) hds ?_
    clear hK12 h1 h19 h20 h21 hds; intro s hs hds
    obtain ⟨h1, h19, h20, h21, h22⟩ := facts5 hs; clear hs
    refine at_seq rfl fun K13 hK13 => ?_
    refine at_false 22 rfl h22 ?_
    refine at_exit 0 rfl ?_
    simp only [inBlockE, thenE]
    refine on_kf hK4 [(1, .pointer (some ⟨bt, 0, none⟩)), (19, .slice (some ⟨g, 0, none⟩) 4 4), (20, .int .i64 4), (21, .int .i64 (i : Int))] (by simp [h1, h19, h20, h21, h22]) hds ?_
    clear hK4 h1 h19 h20 h21 h22 hds; intro s hs hds
    obtain ⟨h1, h19, h20, h21⟩ := facts4 hs; clear hs
    have hbt3 := hbt.frm hw (fun h => h)
    have x2 := hbt3.cell 2
    have x3 := hbt3.cell 3
    simp only [List.getElem?_toArray, List.getElem?_cons_zero, List.getElem?_cons_succ] at x2 x3
    have e3 : IntKind.i64.wrap (3 * m) = 3 * m := IntWalk.i64_in _ (by omega)
    have hb1 := hall ⟨P, 1, 1099511627776⟩ (by simp [bnds])
    have hb2 := hall ⟨D, 0, 1099511627776⟩ (by simp [bnds])
    have hb3 := hall ⟨d, 1, 100⟩ (by simp [bnds])
    have hb4 := hall ⟨m, 1, d⟩ (by simp [bnds])
    simp [B3.fine] at hb1 hb2 hb3 hb4
    have hbad : ¬ (P < 1 ∨ D < 0 ∨ d < 1 ∨ m < 1 ∨ d < m) := by omega
    refine at_seq rfl fun K14 hK14 => ?_
    by_cases h3 : 3 * m < d
    · refine at_seq rfl fun K15 hK15 => ?_
      (conv => arg 4; whnf)
      refine fw_region_lit rfl ?_
      simp [go_sem, opsF, opF, upF, Region.wanted, Fr.ev, Fr.put, thenE, inBlockE, Oper.semAt, yieldF, h1, h19, h20, h21, x2, x3, e3, h3]
      refine on_kf hK15 [(1, .pointer (some ⟨bt, 0, none⟩)), (19, .slice (some ⟨g, 0, none⟩) 4 4), (20, .int .i64 4), (21, .int .i64 (i : Int)), (34, .bool true)] (by simp [h1, h19, h20, h21]) hds ?_
      clear hK15 h1 h19 h20 h21 hds; intro s hs hds
      obtain ⟨h1, h19, h20, h21, h34⟩ := facts5 hs; clear hs
      refine at_true 34 rfl h34 ?_
      refine at_seq rfl fun K16 hK16 => ?_
      (conv => arg 4; whnf)
      refine fw_region_lit rfl ?_
      simp [go_sem, opsF, opF, upF, Region.wanted, Fr.ev, Fr.put, thenE, inBlockE, Oper.semAt, yieldF, h1, h19, h20, h21, h34]
      refine on_kf hK16 [(1, .pointer (some ⟨bt, 0, none⟩)), (2, .int .i64 2), (19, .slice (some ⟨g, 0, none⟩) 4 4), (20, .int .i64 4), (21, .int .i64 (i : Int)), (34, .bool true)] (by simp [h1, h19, h20, h21, h34]) hds ?_
      clear hK16 h1 h19 h20 h21 h34 hds; intro s hs hds
      obtain ⟨h1, h2, h19, h20, h21, h34⟩ := facts6 hs; clear hs
      refine at_ret rfl ?_
      simp only [inBlockE, thenE]
      refine ret_one rfl hds ⟨?_, New.trans hnw hw⟩
      rw [h2, badOf, if_neg hbad, if_pos h3]
    · refine at_seq rfl fun K17 hK17 => ?_
      (conv => arg 4; whnf)
      refine fw_region_lit rfl ?_
      simp [go_sem, opsF, opF, upF, Region.wanted, Fr.ev, Fr.put, thenE, inBlockE, Oper.semAt, yieldF, h1, h19, h20, h21, x2, x3, e3, h3]
      refine on_kf hK17 [(1, .pointer (some ⟨bt, 0, none⟩)), (19, .slice (some ⟨g, 0, none⟩) 4 4), (20, .int .i64 4), (21, .int .i64 (i : Int)), (34, .bool false)] (by simp [h1, h19, h20, h21]) hds ?_
      clear hK17 h1 h19 h20 h21 hds; intro s hs hds
      obtain ⟨h1, h19, h20, h21, h34⟩ := facts5 hs; clear hs
      refine at_false 34 rfl h34 ?_
      refine at_skip rfl ?_
      simp only [inBlockE, thenE]
      refine on_kf hK14 [(1, .pointer (some ⟨bt, 0, none⟩)), (19, .slice (some ⟨g, 0, none⟩) 4 4), (20, .int .i64 4), (21, .int .i64 (i : Int))] (by simp [h1, h19, h20, h21, h34]) hds ?_
      clear hK14 h1 h19 h20 h21 h34 hds; intro s hs hds
      obtain ⟨h1, h19, h20, h21⟩ := facts4 hs; clear hs
      refine at_seq rfl fun K18 hK18 => ?_
      (conv => arg 4; whnf)
      refine fw_region_lit rfl ?_
      simp [go_sem, opsF, opF, upF, Region.wanted, Fr.ev, Fr.put, thenE, inBlockE, Oper.semAt, yieldF, h1, h19, h20, h21]
      refine on_kf hK18 [(1, .pointer (some ⟨bt, 0, none⟩)), (2, .int .i64 0), (19, .slice (some ⟨g, 0, none⟩) 4 4), (20, .int .i64 4), (21, .int .i64 (i : Int))] (by simp [h1, h19, h20, h21]) hds ?_
      clear hK18 h1 h19 h20 h21 hds; intro s hs hds
      obtain ⟨h1, h2, h19, h20, h21⟩ := facts5 hs; clear hs
      refine at_ret rfl ?_
      refine ret_one rfl hds ⟨?_, New.trans hnw hw⟩
      rw [h2, badOf, if_neg hbad, if_neg h3]
end Go.Proofs.Ytiejaopidkghdab
