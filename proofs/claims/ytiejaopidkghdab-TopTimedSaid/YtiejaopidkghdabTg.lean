/- Waits: what may be, and the waits one by one. -/
import Derived.Test.YtiejaopidkghdabTf
namespace Go.Proofs.Ytiejaopidkghdab
set_option linter.unusedSimpArgs false
set_option linter.unusedVariables false
open Go.RowKit Go.Lf

theorem mixed : Try.prog.follows .mixedOrders = true := by kernel_rfl

noncomputable def body27 : Code := Try.f27.body.getD .skip

def AlI (w0 : World) (g : Nat) (l : List Bool) (mm : Nat) (s : Fr) (w : World) : Prop :=
  ∃ i : Nat, i ≤ l.length ∧ mm = l.length - i ∧ s.ds = [] ∧ s.t 5 = .slice (some ⟨g, 0, none⟩) l.length l.length ∧ s.t 6 = .int .i64 (l.length : Int) ∧ s.t 7 = .int .i64 (i : Int) ∧ w0 = w ∧ ∀ b ∈ l.take i, b = true

theorem all_any (g : Nat) (l : List Bool) (T : TypeId) (w : World) (hb : Blk w g (l.map Value.bool).toArray T) (hl : l.length ≤ 10) :
    CallsV Try.prog 27 #[.slice (some ⟨g, 0, none⟩) l.length l.length] w fun v w' => v = .bool (l.all id) ∧ w = w' := by
  refine calls_at body27 Try.func27 rfl 14 rfl (by simp) fun s hs hds => ?_
  have h0 := hs 0 _ rfl
  clear hs
  refine at_seq rfl fun K1 hK1 => ?_
  (conv => arg 4; whnf)
  refine fw_region_lit rfl ?_
  simp [go_sem, opsF, opF, upF, Region.wanted, Fr.ev, Fr.put, thenE, inBlockE, Oper.semAt, yieldF, h0]
  refine on_kf hK1 [(0, .slice (some ⟨g, 0, none⟩) l.length l.length)] (by simp [h0]) hds ?_
  clear hK1 h0 hds; intro s hs hds
  have h0 : s.t 0 = .slice (some ⟨g, 0, none⟩) l.length l.length := hs (0, _) (List.mem_singleton_self _); clear hs
  refine at_seq rfl fun K2 hK2 => ?_
  refine at_seq rfl fun K3 hK3 => ?_
  (conv => arg 4; whnf)
  refine fw_region_lit rfl ?_
  simp [go_sem, opsF, opF, upF, Region.wanted, Fr.ev, Fr.put, thenE, inBlockE, Oper.semAt, yieldF, h0]
  refine on_kf hK3 [(5, .slice (some ⟨g, 0, none⟩) l.length l.length), (6, .int .i64 (l.length : Int)), (7, .int .i64 ((0 : Nat) : Int))] (by simp [h0]) hds ?_
  clear hK3 h0 hds; intro s hs hds
  obtain ⟨h5, h6, h7⟩ := facts3 hs; clear hs
  refine at_block 0 rfl ?_
  refine at_loop rfl (AlI w g l) l.length ⟨0, by omega, by omega, hds, h5, h6, h7, rfl, by simp⟩ ?_
  clear h5 h6 h7 hds s
  rintro mm s w1 ⟨i, hi, rfl, hds, h5, h6, h7, rfl, hfi⟩
  by_cases hlt : i < l.length
  · have d0 : (i : Int) < (l.length : Int) := by omega
    refine at_seq rfl fun K4 hK4 => ?_
    (conv => arg 4; whnf)
    refine fw_region_lit rfl ?_
    simp [go_sem, opsF, opF, upF, Region.wanted, Fr.ev, Fr.put, thenE, inBlockE, Oper.semAt, yieldF, h5, h6, h7, d0]
    refine on_kf hK4 [(5, .slice (some ⟨g, 0, none⟩) l.length l.length), (6, .int .i64 (l.length : Int)), (7, .int .i64 (i : Int)), (8, .bool true)] (by simp [h5, h6, h7]) hds ?_
    clear hK4 h5 h6 h7 hds; intro s hs hds
    obtain ⟨h5, h6, h7, h8⟩ := facts4 hs; clear hs
    refine at_seq rfl fun K5 hK5 => ?_
    refine at_true 8 rfl h8 ?_
    refine at_skip rfl ?_
    simp only [inBlockE, thenE]
    refine on_kf hK5 [(5, .slice (some ⟨g, 0, none⟩) l.length l.length), (6, .int .i64 (l.length : Int)), (7, .int .i64 (i : Int))] (by simp [h5, h6, h7, h8]) hds ?_
    clear hK5 h5 h6 h7 h8 hds; intro s hs hds
    obtain ⟨h5, h6, h7⟩ := facts3 hs; clear hs
    refine at_seq rfl fun K6 hK6 => ?_
    refine at_block 1 rfl ?_
    obtain ⟨b, hbi⟩ : ∃ b, l[i]? = some b := ⟨l[i], by simp [hlt]⟩
    have e0 : w.cell? ⟨g, i, none⟩ = some (.bool b) := by rw [hb.cell]; simp [hbi]
    refine at_seq rfl fun K7 hK7 => ?_
    (conv => arg 4; whnf)
    refine fw_region_lit rfl ?_
    simp [go_sem, opsF, opF, upF, Region.wanted, Fr.ev, Fr.put, thenE, inBlockE, Oper.semAt, yieldF, h5, h6, h7, hlt, e0]
    refine on_kf hK7 [(4, .bool b), (5, .slice (some ⟨g, 0, none⟩) l.length l.length), (6, .int .i64 (l.length : Int)), (7, .int .i64 (i : Int))] (by simp [h5, h6, h7]) hds ?_
    clear hK7 h5 h6 h7 hds; intro s hs hds
    obtain ⟨h4, h5, h6, h7⟩ := facts4 hs; clear hs
    refine at_seq rfl fun K8 hK8 => ?_
    (conv => arg 4; whnf)
    refine fw_region_lit rfl ?_
    simp [go_sem, opsF, opF, upF, Region.wanted, Fr.ev, Fr.put, thenE, inBlockE, Oper.semAt, yieldF, h4, h5, h6, h7]
    cases b
    · skip
      refine on_kf hK8 [(4, .bool false), (5, .slice (some ⟨g, 0, none⟩) l.length l.length), (6, .int .i64 (l.length : Int)), (7, .int .i64 (i : Int)), (12, .bool true)] (by simp [h4, h5, h6, h7]) hds ?_
      clear hK8 h4 h5 h6 h7 hds; intro s hs hds
      obtain ⟨h4, h5, h6, h7, h12⟩ := facts5 hs; clear hs
      refine at_true 12 rfl h12 ?_
      refine at_seq rfl fun K9 hK9 => ?_
      (conv => arg 4; whnf)
      refine fw_region_lit rfl ?_
      simp [go_sem, opsF, opF, upF, Region.wanted, Fr.ev, Fr.put, thenE, inBlockE, Oper.semAt, yieldF, h4, h5, h6, h7, h12]
      refine on_kf hK9 [(2, .bool false), (4, .bool false), (5, .slice (some ⟨g, 0, none⟩) l.length l.length), (6, .int .i64 (l.length : Int)), (7, .int .i64 (i : Int)), (12, .bool true)] (by simp [h4, h5, h6, h7, h12]) hds ?_
      clear hK9 h4 h5 h6 h7 h12 hds; intro s hs hds
      obtain ⟨h2, h4, h5, h6, h7, h12⟩ := facts6 hs; clear hs
      refine at_ret rfl ?_
      simp only [inBlockE, thenE]
      refine ret_one rfl hds ⟨?_, rfl⟩
      rw [h2]
      have : l.all id = false := by
        rw [List.all_eq_false]
        exact ⟨false, List.mem_of_getElem? hbi, by simp⟩
      rw [this]
    · skip
      refine on_kf hK8 [(4, .bool true), (5, .slice (some ⟨g, 0, none⟩) l.length l.length), (6, .int .i64 (l.length : Int)), (7, .int .i64 (i : Int)), (12, .bool false)] (by simp [h4, h5, h6, h7]) hds ?_
      clear hK8 h4 h5 h6 h7 hds; intro s hs hds
      obtain ⟨h4, h5, h6, h7, h12⟩ := facts5 hs; clear hs
      refine at_false 12 rfl h12 ?_
      refine at_skip rfl ?_
      simp only [inBlockE, thenE]
      have d1 : IntKind.i64.wrap ((i : Int) + 1) = (i : Int) + 1 := IntWalk.i64_in _ (by omega)
      refine on_kf hK6 [(5, .slice (some ⟨g, 0, none⟩) l.length l.length), (6, .int .i64 (l.length : Int)), (7, .int .i64 (i : Int))] (by simp [h4, h5, h6, h7, h12]) hds ?_
      clear hK6 h4 h5 h6 h7 h12 hds; intro s hs hds
      obtain ⟨h5, h6, h7⟩ := facts3 hs; clear hs
      (conv => arg 4; whnf)
      refine fw_region_lit rfl ?_
      simp [go_sem, opsF, opF, upF, Region.wanted, Fr.ev, Fr.put, thenE, inBlockE, Oper.semAt, yieldF, h5, h6, h7, d1]
      refine ⟨l.length - (i + 1), by omega, i + 1, by omega, rfl, by simp [hds], by simp [h5], by simp [h6], by simp, rfl, ?_⟩
      intro x hx
      rw [List.take_add_one, hbi] at hx
      simp only [Option.toList_some, List.mem_append, List.mem_singleton] at hx
      rcases hx with hx | rfl
      · exact hfi x hx
      · rfl
  · have d0 : ¬ (i : Int) < (l.length : Int) := by omega
    have hall : l.all id = true := by
      have : l.take i = l := List.take_of_length_le (by omega)
      rw [this] at hfi
      rw [List.all_eq_true]
      exact fun x hx => hfi x hx
    refine at_seq rfl fun K10 hK10 => ?_
    (conv => arg 4; whnf)
    refine fw_region_lit rfl ?_
    simp [go_sem, opsF, opF, upF, Region.wanted, Fr.ev, Fr.put, thenE, inBlockE, Oper.semAt, yieldF, h5, h6, h7, d0]
    refine on_kf hK10 [(5, .slice (some ⟨g, 0, none⟩) l.length l.length), (6, .int .i64 (l.length : Int)), (7, .int .i64 (i : Int)), (8, .bool false)] (by simp [h5, h6, h7]) hds ?_
    clear hK10 h5 h6 h7 hds; intro s hs hds
    obtain ⟨h5, h6, h7, h8⟩ := facts4 hs; clear hs
    refine at_seq rfl fun K11 hK11 => ?_
    refine at_false 8 rfl h8 ?_
    refine at_exit 0 rfl ?_
    simp only [inBlockE, thenE]
    refine on_kf hK2 [(5, .slice (some ⟨g, 0, none⟩) l.length l.length), (6, .int .i64 (l.length : Int)), (7, .int .i64 (i : Int))] (by simp [h5, h6, h7, h8]) hds ?_
    clear hK2 h5 h6 h7 h8 hds; intro s hs hds
    obtain ⟨h5, h6, h7⟩ := facts3 hs; clear hs
    refine at_seq rfl fun K12 hK12 => ?_
    (conv => arg 4; whnf)
    refine fw_region_lit rfl ?_
    simp [go_sem, opsF, opF, upF, Region.wanted, Fr.ev, Fr.put, thenE, inBlockE, Oper.semAt, yieldF, h5, h6, h7]
    refine on_kf hK12 [(2, .bool true), (5, .slice (some ⟨g, 0, none⟩) l.length l.length), (6, .int .i64 (l.length : Int)), (7, .int .i64 (i : Int))] (by simp [h5, h6, h7]) hds ?_
    clear hK12 h5 h6 h7 hds; intro s hs hds
    obtain ⟨h2, h5, h6, h7⟩ := facts4 hs; clear hs
    refine at_ret rfl (ret_one rfl hds ⟨?_, rfl⟩)
    rw [h2, hall]

def wbad (base cap : Int) : Int := if 1 ≤ base ∧ base ≤ cap ∧ cap ≤ 1048576 then 0 else 3

noncomputable def body13 : Code := Try.f13.body.getD .skip
theorem wcheck_any (base cap : Int) (w : World) : CallsV Try.prog 13 #[.int .i64 base, .int .i64 cap] w fun v w' => v = .int .i64 (wbad base cap) ∧ New w w' := by
  refine calls_at body13 Try.func13 rfl 15 rfl (by simp) fun s hs hds => ?_
  have h0 := hs 0 _ rfl
  have h1 := hs 1 _ rfl
  clear hs
  refine at_seq rfl fun K13 hK13 => ?_
  (conv => arg 4; whnf)
  refine fw_region_lit rfl ?_
  simp [go_sem, opsF, opF, upF, Region.wanted, Fr.ev, Fr.put, thenE, inBlockE, Oper.semAt, yieldF, h0, h1]
  refine on_kf hK13 [(0, .int .i64 base), (1, .int .i64 cap)] (by simp [h0, h1]) hds ?_
  clear hK13 h0 h1 hds; intro s hs hds
  obtain ⟨h0, h1⟩ := facts2 hs; clear hs
  refine at_seq rfl fun K14 hK14 => ?_
  refine at_seq rfl fun K15 hK15 => ?_
  (conv => arg 4; whnf)
  refine fw_region_lit rfl ?_
  simp [go_sem, opsF, opF, upF, Region.wanted, Fr.ev, Fr.put, thenE, inBlockE, Oper.semAt, yieldF, h0, h1]
  have hA := Frm.alloc (fun _ => False) w (.cells #[.bool (decide (1 ≤ base)), .bool (decide (base ≤ cap)), .bool (decide (cap ≤ 1048576))] 4)
  have hb := Blk.new w #[.bool (decide (1 ≤ base)), .bool (decide (base ≤ cap)), .bool (decide (cap ≤ 1048576))] 4
  refine (all_any w.heap.size [decide (1 ≤ base), decide (base ≤ cap), decide (cap ≤ 1048576)] 4 _ hb (by simp)).on ?_
  rintro _ w1 ⟨rfl, rfl⟩
  by_cases hf : 1 ≤ base ∧ base ≤ cap ∧ cap ≤ 1048576
  · have hall : [decide (1 ≤ base), decide (base ≤ cap), decide (cap ≤ 1048576)].all id = true := by simp; omega
    rw [hall]
    simp [go_sem, opsF, opF, upF, Region.wanted, Fr.ev, Fr.put, thenE, inBlockE, Oper.semAt, yieldF, h0, h1]
    refine on_kf hK15 [(0, .int .i64 base), (1, .int .i64 cap), (14, .bool false)] (by simp [h0, h1]) hds ?_
    clear hK15 h0 h1 hds; intro s hs hds
    obtain ⟨h0, h1, h14⟩ := facts3 hs; clear hs
    refine at_false 14 rfl h14 ?_
    refine at_skip rfl ?_
    simp only [inBlockE, thenE]
    refine on_kf hK14 [(0, .int .i64 base), (1, .int .i64 cap)] (by simp [h0, h1, h14]) hds ?_
    clear hK14 h0 h1 h14 hds; intro s hs hds
    obtain ⟨h0, h1⟩ := facts2 hs; clear hs
    refine at_seq rfl fun K16 hK16 => ?_
    (conv => arg 4; whnf)
    refine fw_region_lit rfl ?_
    simp [go_sem, opsF, opF, upF, Region.wanted, Fr.ev, Fr.put, thenE, inBlockE, Oper.semAt, yieldF, h0, h1]
    refine on_kf hK16 [(0, .int .i64 base), (1, .int .i64 cap), (4, .int .i64 0)] (by simp [h0, h1]) hds ?_
    clear hK16 h0 h1 hds; intro s hs hds
    obtain ⟨h0, h1, h4⟩ := facts3 hs; clear hs
    refine at_ret rfl (ret_one rfl hds ⟨?_, hA⟩)
    rw [h4, wbad, if_pos hf]
  · have hall : [decide (1 ≤ base), decide (base ≤ cap), decide (cap ≤ 1048576)].all id = false := by
      cases h : [decide (1 ≤ base), decide (base ≤ cap), decide (cap ≤ 1048576)].all id
      · rfl
      · simp at h; omega
    rw [hall]
    simp [go_sem, opsF, opF, upF, Region.wanted, Fr.ev, Fr.put, thenE, inBlockE, Oper.semAt, yieldF, h0, h1]
    refine on_kf hK15 [(0, .int .i64 base), (1, .int .i64 cap), (14, .bool true)] (by simp [h0, h1]) hds ?_
    clear hK15 h0 h1 hds; intro s hs hds
    obtain ⟨h0, h1, h14⟩ := facts3 hs; clear hs
    refine at_true 14 rfl h14 ?_
    refine at_seq rfl fun K17 hK17 => ?_
    (conv => arg 4; whnf)
    refine fw_region_lit rfl ?_
    simp [go_sem, opsF, opF, upF, Region.wanted, Fr.ev, Fr.put, thenE, inBlockE, Oper.semAt, yieldF, h0, h1, h14]
    refine on_kf hK17 [(0, .int .i64 base), (1, .int .i64 cap), (4, .int .i64 3), (14, .bool true)] (by simp [h0, h1, h14]) hds ?_
    clear hK17 h0 h1 h14 hds; intro s hs hds
    obtain ⟨h0, h1, h4, h14⟩ := facts4 hs; clear hs
    refine at_ret rfl ?_
    simp only [inBlockE, thenE]
    refine ret_one rfl hds ⟨?_, hA⟩
    rw [h4, wbad, if_neg hf]

noncomputable def body28 : Code := Try.f28.body.getD .skip
theorem waits_any (base cap : Int) (w : World) : CallsV Try.prog 28 #[.int .i64 base, .int .i64 cap] w fun v w' => ∃ b1 b2, v = .func (.func 29) #[] #[.pointer (some ⟨b1, 0, none⟩), .pointer (some ⟨b2, 0, none⟩)] ∧ New w w' ∧ w.heap.size ≤ b1 ∧ w.heap.size ≤ b2 ∧ Blk w' b1 #[.int .i64 base] 3 ∧ Blk w' b2 #[.int .i64 cap] 3 := by
  refine calls_at body28 Try.func28 rfl 6 rfl (by simp) fun s hs hds => ?_
  have h0 := hs 0 _ rfl
  have h1 := hs 1 _ rfl
  clear hs
  have hA := Frm.alloc (fun _ => False) w (.cells #[.int .i64 base] 3)
  have hb1 := Blk.new w #[.int .i64 base] 3
  have hA2 := Frm.alloc (fun _ => False) (w.alloc (.cells #[.int .i64 base] 3)) (.cells #[.int .i64 cap] 3)
  have hb2 := Blk.new (w.alloc (.cells #[.int .i64 base] 3)) #[.int .i64 cap] 3
  have hb1' := hb1.frm hA2 (fun h => h)
  simp only [World.size_alloc] at hb2
  refine at_seq rfl fun K18 hK18 => ?_
  (conv => arg 4; whnf)
  refine fw_region_lit rfl ?_
  simp [go_sem, opsF, opF, upF, Region.wanted, Fr.ev, Fr.put, thenE, inBlockE, Oper.semAt, yieldF, h0, h1]
  refine on_kf hK18 [(0, .int .i64 base), (1, .int .i64 cap), (2, .pointer (some ⟨w.heap.size, 0, none⟩)), (3, .pointer (some ⟨w.heap.size + 1, 0, none⟩))] (by simp [h0, h1]) hds ?_
  clear hK18 h0 h1 hds; intro s hs hds
  obtain ⟨h0, h1, h2, h3⟩ := facts4 hs; clear hs
  refine at_seq rfl fun K19 hK19 => ?_
  (conv => arg 4; whnf)
  refine fw_region_lit rfl ?_
  simp [go_sem, opsF, opF, upF, Region.wanted, Fr.ev, Fr.put, thenE, inBlockE, Oper.semAt, yieldF, h0, h1, h2, h3]
  refine on_kf hK19 [(0, .int .i64 base), (1, .int .i64 cap), (2, .pointer (some ⟨w.heap.size, 0, none⟩)), (3, .pointer (some ⟨w.heap.size + 1, 0, none⟩)), (4, .func (.func 29) #[] #[.pointer (some ⟨w.heap.size, 0, none⟩), .pointer (some ⟨w.heap.size + 1, 0, none⟩)])] (by simp [h0, h1, h2, h3]) hds ?_
  clear hK19 h0 h1 h2 h3 hds; intro s hs hds
  obtain ⟨h0, h1, h2, h3, h4⟩ := facts5 hs; clear hs
  exact at_ret rfl (ret_one rfl hds ⟨_, _, h4, New.trans hA hA2, by omega, by omega, hb1', hb2⟩)

/-- The wait with n strikes. -/
def wv (base cap : Int) : Nat → Int
  | 0 => base
  | n + 1 => min (2 * wv base cap n) cap

theorem wv_range {base cap : Int} (h : 1 ≤ base ∧ base ≤ cap) : ∀ n, 1 ≤ wv base cap n ∧ wv base cap n ≤ cap
  | 0 => h
  | n + 1 => by have := wv_range h n; unfold wv; omega

noncomputable def body29 : Code := Try.f29.body.getD .skip

def WtI (J : Nat → World → Prop) (base cap : Int) (L b1 b2 last : Nat) (mm : Nat) (s : Fr) (w : World) : Prop :=
  ∃ n : Nat, n ≤ last ∧ mm = last - n ∧ s.ds = [] ∧ s.t 0 = .func (.yield L) #[] #[] ∧ s.t 2 = .pointer (some ⟨b2, 0, none⟩) ∧ s.t 4 = .int .i64 (n : Int) ∧ s.t 5 = .int .i64 (wv base cap n) ∧ J n w

theorem waits_it (base cap : Int) (L b1 b2 last : Nat) (J : Nat → World → Prop) (E : World → Prop) (w : World) (hr : 1 ≤ base ∧ base ≤ cap ∧ cap ≤ 1048576) (hlast : last ≤ 100000)
    (hread : ∀ k w, J k w → w.cell? ⟨b1, 0, none⟩ = some (.int .i64 base) ∧ w.cell? ⟨b2, 0, none⟩ = some (.int .i64 cap)) (hJ : ∀ k w w', J k w → New w w' → J k w')
    (hy : ∀ (k : Nat) w, k ≤ last → J k w → YieldV Try.prog L #[.int .i64 (k : Int), .int .i64 (wv base cap k)] w fun v w' => (k < last ∧ v = .bool true ∧ J (k + 1) w') ∨ (k = last ∧ v = .bool false ∧ E w')) (h0J : J 0 w) :
    CallsV Try.prog 29 #[.func (.yield L) #[] #[], .pointer (some ⟨b1, 0, none⟩), .pointer (some ⟨b2, 0, none⟩)] w fun _ w' => E w' := by
  refine calls_at body29 Try.func29 rfl 17 rfl (by simp) fun s hs hds => ?_
  have h0 := hs 0 _ rfl
  have h1 := hs 1 _ rfl
  have h2 := hs 2 _ rfl
  clear hs
  refine at_seq rfl fun K20 hK20 => ?_
  (conv => arg 4; whnf)
  refine draw_still mixed (by kernel_rfl) rfl fun w1 hw1 hn1 => ?_
  have h0J1 := hJ 0 w w1 h0J hn1
  obtain ⟨c1, c2⟩ := hread 0 w1 h0J1
  simp [go_sem, stillsF, stillUpF, Region.wanted, Fr.ev, Fr.put, thenE, inBlockE, yieldF, h0, h1, h2, c1]
  refine on_kf hK20 [(0, .func (.yield L) #[] #[]), (2, .pointer (some ⟨b2, 0, none⟩)), (4, .int .i64 ((0 : Nat) : Int)), (5, .int .i64 base)] (by simp [h0, h1, h2]) hds ?_
  clear hK20 h0 h1 h2 hds; intro s hs hds
  obtain ⟨h0, h2, h4, h5⟩ := facts4 hs; clear hs
  refine at_block 0 rfl ?_
  refine at_loop rfl (WtI J base cap L b1 b2 last) last ⟨0, by omega, by omega, hds, h0, h2, h4, h5, h0J1⟩ ?_
  clear h0 h2 h4 h5 hds s h0J h0J1 c1 c2 hw1 hn1 w1 w
  rintro mm s w ⟨n, hn, rfl, hds, h0, h2, h4, h5, hJn⟩
  obtain ⟨c1, c2⟩ := hread n w hJn
  obtain ⟨v1, v2⟩ := wv_range (base := base) (cap := cap) ⟨hr.1, hr.2.1⟩ n
  generalize hwv : wv base cap n = v at *
  refine at_seq rfl fun K21 hK21 => ?_
  refine at_seq rfl fun K22 hK22 => ?_
  (conv => arg 4; whnf)
  refine fw_region_lit rfl ?_
  refine ops_take 3 fun KO hKO => ?_
  simp [go_sem, opsF, opF, upF, Region.wanted, Fr.ev, Fr.put, thenE, inBlockE, Oper.semAt, yieldF, h0, h2, h4, h5]
  refine hKO _ _ ?_
  clear hKO
  obtain ⟨yf, yt, ya, yb, hyr, hyv⟩ := hy n w hn hJn
  rw [hwv] at hyr
  simp [go_sem, opsF, opF, upF, Region.wanted, Fr.ev, Fr.put, thenE, inBlockE, Oper.semAt, yieldF, h0, h2, h4, h5, hyr]
  refine hyv.on ?_
  rintro yv w2 (⟨hlt, rfl, hJ2⟩ | ⟨hlt, rfl, hE⟩)
  · refine on_kf hK22 [(0, .func (.yield L) #[] #[]), (2, .pointer (some ⟨b2, 0, none⟩)), (4, .int .i64 (n : Int)), (5, .int .i64 v), (10, .bool true)] (by simp [h0, h2, h4, h5]) hds ?_
    clear hK22 h0 h2 h4 h5 hds; intro s hs hds
    obtain ⟨h0, h2, h4, h5, h10⟩ := facts5 hs; clear hs
    refine at_true 10 rfl h10 ?_
    refine at_skip rfl ?_
    simp only [inBlockE, thenE]
    refine on_kf hK21 [(0, .func (.yield L) #[] #[]), (2, .pointer (some ⟨b2, 0, none⟩)), (4, .int .i64 (n : Int)), (5, .int .i64 v)] (by simp [h0, h2, h4, h5, h10]) hds ?_
    clear hK21 h0 h2 h4 h5 h10 hds; intro s hs hds
    obtain ⟨h0, h2, h4, h5⟩ := facts4 hs; clear hs
    obtain ⟨c1, c2⟩ := hread _ w2 hJ2
    have d1 : IntKind.i64.wrap (2 * v) = 2 * v := IntWalk.i64_in _ (by omega)
    have d2 : IntKind.i64.wrap ((n : Int) + 1) = (n : Int) + 1 := IntWalk.i64_in _ (by omega)
    have hwn : wv base cap (n + 1) = if cap < 2 * v then cap else 2 * v := by
      show min (2 * wv base cap n) cap = _
      rw [hwv]
      split <;> omega
    refine at_seq rfl fun K23 hK23 => ?_
    refine at_block 1 rfl ?_
    (conv => arg 4; whnf)
    refine fw_region_lit rfl ?_
    simp [go_sem, opsF, opF, upF, Region.wanted, Fr.ev, Fr.put, thenE, inBlockE, Oper.semAt, yieldF, h0, h2, h4, h5, c2, d1]
    refine on_kf hK23 [(0, .func (.yield L) #[] #[]), (2, .pointer (some ⟨b2, 0, none⟩)), (4, .int .i64 (n : Int)), (5, .int .i64 (if cap < 2 * v then cap else 2 * v))] (by simp [h0, h2, h4, h5]) hds ?_
    clear hK23 h0 h2 h4 h5 hds; intro s hs hds
    obtain ⟨h0, h2, h4, h5⟩ := facts4 hs; clear hs
    (conv => arg 4; whnf)
    refine fw_region_lit rfl ?_
    simp [go_sem, opsF, opF, upF, Region.wanted, Fr.ev, Fr.put, thenE, inBlockE, Oper.semAt, yieldF, h0, h2, h4, h5, d2]
    refine ⟨last - (n + 1), by omega, n + 1, by omega, rfl, by simp [hds], by simp [h0], by simp [h2], by simp, ?_, hJ2⟩
    rw [hwn]
    simp [h5]
  · refine on_kf hK22 [(0, .func (.yield L) #[] #[]), (2, .pointer (some ⟨b2, 0, none⟩)), (4, .int .i64 (n : Int)), (5, .int .i64 v), (10, .bool false)] (by simp [h0, h2, h4, h5]) hds ?_
    clear hK22 h0 h2 h4 h5 hds; intro s hs hds
    obtain ⟨h0, h2, h4, h5, h10⟩ := facts5 hs; clear hs
    refine at_false 10 rfl h10 ?_
    refine at_exit 0 rfl ?_
    simp only [inBlockE, thenE]
    exact end_none rfl hds hE
end Go.Proofs.Ytiejaopidkghdab
