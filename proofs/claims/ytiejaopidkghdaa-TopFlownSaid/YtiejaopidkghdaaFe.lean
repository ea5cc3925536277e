/- The library's functions over slices of requests. -/
import Derived.Test.YtiejaopidkghdaaFc
namespace Go.Proofs.Ytiejaopidkghdaa
set_option linter.unusedSimpArgs false
set_option linter.unusedVariables false
open Go.RowKit Go.Lf

theorem New.trans {a b c : World} (h : New a b) (k : New b c) : New a c := Frm.trans h k (fun _ _ h => h)

/-- The search's predicate, as it stands in the law. -/
def hit (to h : Int) (r : Rq) : Bool := r.to == to && r.h == h && r.op

theorem hit_any (b1 b2 : Nat) (to h : Int) (r : Rq) (w : World) (c1 : w.cell? ⟨b1, 0, none⟩ = some (.int .i64 to)) (c2 : w.cell? ⟨b2, 0, none⟩ = some (.int .i64 h)) :
    CallsV Try.prog 6 #[r.agg, .pointer (some ⟨b1, 0, none⟩), .pointer (some ⟨b2, 0, none⟩)] w fun v w' => v = .bool (hit to h r) ∧ New w w' := by
  have k1 := World.block_lt_of_cell? w _ c1
  have k2 := World.block_lt_of_cell? w _ c2
  unfold Rq.agg
  by_cases e1 : r.to = to
  · by_cases e2 : r.h = h
    · have hres0 : hit to h r = r.op := by simp [hit, e1, e2]
      have hres := Lib.hid hres0
      have d1 : (r.to == to) = true := by simp [e1]
      have d2 : (r.h == h) = true := by simp [e2]
      clear hres0 e1 e2
      go_enter Try.func6, Try.ntmps6
      go_wp2
      go_ret
      exact ⟨_, rfl, by rw [hres.out]; rfl, Frm.alloc _ _ _⟩
    · have hres0 : hit to h r = false := by simp [hit, e2]
      have hres := Lib.hid hres0
      have d1 : (r.to == to) = true := by simp [e1]
      have d2 : (r.h == h) = false := by simp [e2]
      clear hres0 e1 e2
      go_enter Try.func6, Try.ntmps6
      go_wp2
      go_ret
      exact ⟨_, rfl, by rw [hres.out]; rfl, Frm.alloc _ _ _⟩
  · have hres0 : hit to h r = false := by simp [hit, e1]
    have hres := Lib.hid hres0
    have d1 : (r.to == to) = false := by simp [e1]
    clear hres0 e1
    go_enter Try.func6, Try.ntmps6
    go_wp2
    go_ret
    exact ⟨_, rfl, by rw [hres.out]; rfl, Frm.alloc _ _ _⟩

/-- The first place at which a predicate holds; -1: none. -/
def idx (p : Rq → Bool) (l : List Rq) : Int := match l.findIdx? p with | some i => (i : Int) | none => -1

noncomputable def body5 : Code := Try.f5.body.getD .skip

def IxI (w0 : World) (l : List Rq) (lv fv : Value) (p : Rq → Bool) (m : Nat) (s : Fr) (w : World) : Prop :=
  ∃ i : Nat, i ≤ l.length ∧ m = l.length - i ∧ s.ds = [] ∧ s.t 0 = lv ∧ s.t 1 = fv ∧ s.t 7 = .int .i64 (l.length : Int) ∧ s.t 8 = .int .i64 (i : Int) ∧ New w0 w ∧ ∀ r ∈ l.take i, p r = false

theorem indexFunc_any (lv : Value) (l : List Rq) (f : Nat) (cap : Array Value) (p : Rq → Bool) (w : World) (hr : Row w 31 5 lv l.length (cellsOf l))
    (hcf : ∀ (args : Array Value) (w : World), (callFunc f args).run Try.prog w = .ok (.enter f args) w)
    (hp : ∀ r w1, New w w1 → CallsV Try.prog f (#[Rq.agg r] ++ cap) w1 fun v w' => v = .bool (p r) ∧ New w1 w') :
    CallsV Try.prog 5 #[lv, .func (.func f) #[] cap] w fun v w' => v = .int .i64 (idx p l) ∧ New w w' := by
  obtain ⟨ad, cp, hlv, had⟩ : ∃ ad cp, lv = .slice ad l.length cp ∧ (0 < l.length → ∃ g, ad = some ⟨g, 0, none⟩) := by
    rcases hr.val with ⟨h, h', _⟩ | ⟨g, cap, h, _⟩
    · exact ⟨none, 0, by rw [h, h'], fun h => by omega⟩
    · exact ⟨_, cap, h, fun _ => ⟨g, rfl⟩⟩
  have hlen : l.length ≤ 9223372036854775807 := by
    rcases hr.val with ⟨_, h', _⟩ | ⟨g, cap, _, h, h'⟩
    · omega
    · unfold maxLen at h'; omega
  subst hlv
  refine calls_at body5 Try.func5 rfl 19 rfl (by simp) fun s hs hds => ?_
  have h0 := hs 0 _ rfl
  have h1 := hs 1 _ rfl
  clear hs
  refine at_seq rfl fun K1 hK1 => ?_
  (conv => arg 4; whnf)
  refine fw_region_lit rfl ?_
  simp [go_sem, opsF, opF, upF, Region.wanted, Fr.ev, Fr.put, thenE, inBlockE, Oper.semAt, yieldF, h0, h1]
  refine on_kf hK1 [(0, .slice ad l.length cp), (1, .func (.func f) #[] cap)] (by simp [h0, h1]) hds ?_
  clear hK1 h0 h1 hds; intro s hs hds
  obtain ⟨h0, h1⟩ := facts2 hs; clear hs
  refine at_seq rfl fun K2 hK2 => ?_
  refine at_seq rfl fun K3 hK3 => ?_
  (conv => arg 4; whnf)
  refine fw_region_lit rfl ?_
  simp [go_sem, opsF, opF, upF, Region.wanted, Fr.ev, Fr.put, thenE, inBlockE, Oper.semAt, yieldF, h0, h1]
  refine on_kf hK3 [(0, .slice ad l.length cp), (1, .func (.func f) #[] cap), (7, .int .i64 (l.length : Int)), (8, .int .i64 ((0 : Nat) : Int))] (by simp [h0, h1]) hds ?_
  clear hK3 h0 h1 hds; intro s hs hds
  obtain ⟨h0, h1, h7, h8⟩ := facts4 hs; clear hs
  refine at_block 0 rfl ?_
  refine at_loop rfl (IxI w l (.slice ad l.length cp) (.func (.func f) #[] cap) p) l.length ⟨0, by omega, by omega, hds, h0, h1, h7, h8, Frm.refl _ _, by simp⟩ ?_
  clear h0 h1 h7 h8 hds s
  rintro m s w1 ⟨i, hi, rfl, hds, h0, h1, h7, h8, hw, hno⟩
  by_cases hlt : i < l.length
  · have d0 : (i : Int) < (l.length : Int) := by omega
    refine at_seq rfl fun K4 hK4 => ?_
    (conv => arg 4; whnf)
    refine fw_region_lit rfl ?_
    simp [go_sem, opsF, opF, upF, Region.wanted, Fr.ev, Fr.put, thenE, inBlockE, Oper.semAt, yieldF, h0, h1, h7, h8, d0]
    refine on_kf hK4 [(0, .slice ad l.length cp), (1, .func (.func f) #[] cap), (7, .int .i64 (l.length : Int)), (8, .int .i64 (i : Int)), (9, .bool true)] (by simp [h0, h1, h7, h8]) hds ?_
    clear hK4 h0 h1 h7 h8 hds; intro s hs hds
    obtain ⟨h0, h1, h7, h8, h9⟩ := facts5 hs; clear hs
    refine at_seq rfl fun K5 hK5 => ?_
    refine at_true 9 rfl h9 ?_
    refine at_skip rfl ?_
    simp only [inBlockE, thenE]
    refine on_kf hK5 [(0, .slice ad l.length cp), (1, .func (.func f) #[] cap), (7, .int .i64 (l.length : Int)), (8, .int .i64 (i : Int))] (by simp [h0, h1, h7, h8, h9]) hds ?_
    clear hK5 h0 h1 h7 h8 h9 hds; intro s hs hds
    obtain ⟨h0, h1, h7, h8⟩ := facts4 hs; clear hs
    refine at_seq rfl fun K6 hK6 => ?_
    refine at_block 1 rfl ?_
    refine at_seq rfl fun K7 hK7 => ?_
    (conv => arg 4; whnf)
    refine fw_region_lit rfl ?_
    simp [go_sem, opsF, opF, upF, Region.wanted, Fr.ev, Fr.put, thenE, inBlockE, Oper.semAt, yieldF, h0, h1, h7, h8]
    refine on_kf hK7 [(0, .slice ad l.length cp), (1, .func (.func f) #[] cap), (5, .int .i64 (i : Int)), (7, .int .i64 (l.length : Int)), (8, .int .i64 (i : Int))] (by simp [h0, h1, h7, h8]) hds ?_
    clear hK7 h0 h1 h7 h8 hds; intro s hs hds
    obtain ⟨h0, h1, h5, h7, h8⟩ := facts5 hs; clear hs
    obtain ⟨g, rfl⟩ := had (by omega)
    obtain ⟨r, hri⟩ : ∃ r, l[i]? = some r := ⟨l[i], by simp [hlt]⟩
    have hr1 := hr.frm hw (fun _ _ h => h)
    have e0 : w1.cell? ⟨g, i * 5, none⟩ = some (.int .i64 r.id) := hr1.cell (cellsOf_get l i 0 r hri (by decide))
    have e1 : w1.cell? ⟨g, i * 5 + 1, none⟩ = some (.int .i64 r.to) := hr1.cell (cellsOf_get l i 1 r hri (by decide))
    have e2 : w1.cell? ⟨g, i * 5 + 2, none⟩ = some (.int .i64 r.h) := hr1.cell (cellsOf_get l i 2 r hri (by decide))
    have e3 : w1.cell? ⟨g, i * 5 + 3, none⟩ = some (.int .i64 r.tm) := hr1.cell (cellsOf_get l i 3 r hri (by decide))
    have e4 : w1.cell? ⟨g, i * 5 + 4, none⟩ = some (.bool r.op) := hr1.cell (cellsOf_get l i 4 r hri (by decide))
    refine at_seq rfl fun K8 hK8 => ?_
    (conv => arg 4; whnf)
    refine fw_region_lit rfl ?_
    simp [go_sem, opsF, opF, upF, Region.wanted, Fr.ev, Fr.put, thenE, inBlockE, Oper.semAt, yieldF, h0, h1, h5, h7, h8, hlt, e0, e1, e2, e3, e4, hcf]
    refine (hp r w1 hw).on ?_
    rintro v w2 ⟨rfl, hw2⟩
    have hw' := New.trans hw hw2
    cases hpr : p r
    · refine on_kf hK8 [(0, .slice (some ⟨g, 0, none⟩) l.length cp), (1, .func (.func f) #[] cap), (5, .int .i64 (i : Int)), (7, .int .i64 (l.length : Int)), (8, .int .i64 (i : Int)), (16, .bool false)] (by simp [h0, h1, h5, h7, h8]) hds ?_
      clear hK8 h0 h1 h5 h7 h8 hds; intro s hs hds
      obtain ⟨h0, h1, h5, h7, h8, h16⟩ := facts6 hs; clear hs
      refine at_false 16 rfl h16 ?_
      refine at_skip rfl ?_
      simp only [inBlockE, thenE]
      have d1 : IntKind.i64.wrap ((i : Int) + 1) = (i : Int) + 1 := IntWalk.i64_in _ (by omega)
      refine on_kf hK6 [(0, .slice (some ⟨g, 0, none⟩) l.length cp), (1, .func (.func f) #[] cap), (7, .int .i64 (l.length : Int)), (8, .int .i64 (i : Int))] (by simp [h0, h1, h5, h7, h8, h16]) hds ?_
      clear hK6 h0 h1 h5 h7 h8 h16 hds; intro s hs hds
      obtain ⟨h0, h1, h7, h8⟩ := facts4 hs; clear hs
      (conv => arg 4; whnf)
      refine fw_region_lit rfl ?_
      simp [go_sem, opsF, opF, upF, Region.wanted, Fr.ev, Fr.put, thenE, inBlockE, Oper.semAt, yieldF, h0, h1, h7, h8, d1]
      refine ⟨l.length - (i + 1), by omega, i + 1, by omega, rfl, by simp [hds], by simp [h0], by simp [h1], by simp [h7], by simp, hw', ?_⟩
      intro x hx
      rw [List.take_add_one, hri] at hx
      simp only [Option.toList_some, List.mem_append, List.mem_singleton] at hx
      rcases hx with hx | rfl
      · exact hno x hx
      · exact hpr
    · refine on_kf hK8 [(0, .slice (some ⟨g, 0, none⟩) l.length cp), (1, .func (.func f) #[] cap), (5, .int .i64 (i : Int)), (7, .int .i64 (l.length : Int)), (8, .int .i64 (i : Int)), (16, .bool true)] (by simp [h0, h1, h5, h7, h8]) hds ?_
      clear hK8 h0 h1 h5 h7 h8 hds; intro s hs hds
      obtain ⟨h0, h1, h5, h7, h8, h16⟩ := facts6 hs; clear hs
      refine at_true 16 rfl h16 ?_
      refine at_seq rfl fun K9 hK9 => ?_
      (conv => arg 4; whnf)
      refine fw_region_lit rfl ?_
      simp [go_sem, opsF, opF, upF, Region.wanted, Fr.ev, Fr.put, thenE, inBlockE, Oper.semAt, yieldF, h0, h1, h5, h7, h8, h16]
      refine on_kf hK9 [(0, .slice (some ⟨g, 0, none⟩) l.length cp), (1, .func (.func f) #[] cap), (4, .int .i64 (i : Int)), (5, .int .i64 (i : Int)), (7, .int .i64 (l.length : Int)), (8, .int .i64 (i : Int)), (16, .bool true)] (by simp [h0, h1, h5, h7, h8, h16]) hds ?_
      clear hK9 h0 h1 h5 h7 h8 h16 hds; intro s hs hds
      obtain ⟨h0, h1, h4, h5, h7, h8, h16⟩ := facts7 hs; clear hs
      refine at_ret rfl ?_
      simp only [inBlockE, thenE]
      refine ret_one rfl hds ?_
      rw [h4]
      refine ⟨?_, hw'⟩
      have hfi : l.findIdx? p = some i := by
        rw [List.findIdx?_eq_some_iff_getElem]
        refine ⟨hlt, ?_, fun j hj => ?_⟩
        · have : l[i] = r := by simpa [hlt] using hri
          rw [this]; exact hpr
        · have := hno (l[j]'(by omega)) (by rw [List.mem_take_iff_getElem]; exact ⟨j, by omega, rfl⟩)
          simp [this]
      rw [idx, hfi]
  · have d0 : ¬ (i : Int) < (l.length : Int) := by omega
    have hil0 : i = l.length := by omega
    have hil := Lib.hid hil0
    clear hil0
    refine at_seq rfl fun K10 hK10 => ?_
    (conv => arg 4; whnf)
    refine fw_region_lit rfl ?_
    simp [go_sem, opsF, opF, upF, Region.wanted, Fr.ev, Fr.put, thenE, inBlockE, Oper.semAt, yieldF, h0, h1, h7, h8, d0]
    refine on_kf hK10 [(0, .slice ad l.length cp), (1, .func (.func f) #[] cap), (7, .int .i64 (l.length : Int)), (8, .int .i64 (i : Int)), (9, .bool false)] (by simp [h0, h1, h7, h8]) hds ?_
    clear hK10 h0 h1 h7 h8 hds; intro s hs hds
    obtain ⟨h0, h1, h7, h8, h9⟩ := facts5 hs; clear hs
    refine at_seq rfl fun K11 hK11 => ?_
    refine at_false 9 rfl h9 ?_
    refine at_exit 0 rfl ?_
    simp only [inBlockE, thenE]
    refine on_kf hK2 [(0, .slice ad l.length cp), (1, .func (.func f) #[] cap), (7, .int .i64 (l.length : Int)), (8, .int .i64 (i : Int))] (by simp [h0, h1, h7, h8, h9]) hds ?_
    clear hK2 h0 h1 h7 h8 h9 hds; intro s hs hds
    obtain ⟨h0, h1, h7, h8⟩ := facts4 hs; clear hs
    refine at_seq rfl fun K12 hK12 => ?_
    (conv => arg 4; whnf)
    refine fw_region_lit rfl ?_
    simp [go_sem, opsF, opF, upF, Region.wanted, Fr.ev, Fr.put, thenE, inBlockE, Oper.semAt, yieldF, h0, h1, h7, h8]
    refine on_kf hK12 [(0, .slice ad l.length cp), (1, .func (.func f) #[] cap), (4, .int .i64 (-1)), (7, .int .i64 (l.length : Int)), (8, .int .i64 (i : Int))] (by simp [h0, h1, h7, h8]) hds ?_
    clear hK12 h0 h1 h7 h8 hds; intro s hs hds
    obtain ⟨h0, h1, h4, h7, h8⟩ := facts5 hs; clear hs
    refine at_ret rfl ?_
    refine ret_one rfl hds ?_
    rw [h4]
    refine ⟨?_, hw⟩
    have hfi : l.findIdx? p = none := by
      rw [List.findIdx?_eq_none_iff]
      intro x hx
      exact hno x (by rw [hil.out]; simpa using hx)
    rw [idx, hfi]

noncomputable def body7 : Code := Try.f7.body.getD .skip

theorem clone_any (lv : Value) (l : List Rq) (w : World) (hr : Row w 31 5 lv l.length (cellsOf l)) (hl : l.length ≤ 65536) :
    CallsV Try.prog 7 #[lv] w fun v w' => Row w' 31 5 v l.length (cellsOf l) ∧ New w w' ∧ ∀ k, v.ownBlock = some k → w.heap.size ≤ k ∧ k < w'.heap.size := by
  rcases hr.val with ⟨rfl, h', hx⟩ | ⟨g, cp, rfl, hc1, hc2⟩
  · have hq := fun w => Lib.run_eql_slice_nil (P := Try.prog) w 27 31 none 0 0 0 0 Try.underlying27
    refine calls_at body7 Try.func7 rfl 8 rfl (by simp) fun s hs hds => ?_
    have h0 := hs 0 _ rfl
    clear hs
    refine at_seq rfl fun K13 hK13 => ?_
    (conv => arg 4; whnf)
    refine fw_region_lit rfl ?_
    simp [go_sem, opsF, opF, upF, Region.wanted, Fr.ev, Fr.put, thenE, inBlockE, Oper.semAt, yieldF, h0]
    refine on_kf hK13 [(0, .slice none 0 0)] (by simp [h0]) hds ?_
    clear hK13 h0 hds; intro s hs hds
    have h0 : s.t 0 = .slice none 0 0 := hs (0, _) (List.mem_singleton_self _); clear hs
    refine at_seq rfl fun K14 hK14 => ?_
    refine at_seq rfl fun K15 hK15 => ?_
    (conv => arg 4; whnf)
    refine fw_region_lit rfl ?_
    simp [go_sem, opsF, opF, upF, Region.wanted, Fr.ev, Fr.put, thenE, inBlockE, Oper.semAt, yieldF, h0, hq]
    refine on_kf hK15 [(0, .slice none 0 0), (4, .bool true)] (by simp [h0]) hds ?_
    clear hK15 h0 hds; intro s hs hds
    obtain ⟨h0, h4⟩ := facts2 hs; clear hs
    refine at_true 4 rfl h4 ?_
    refine at_seq rfl fun K16 hK16 => ?_
    (conv => arg 4; whnf)
    refine fw_region_lit rfl ?_
    simp [go_sem, opsF, opF, upF, Region.wanted, Fr.ev, Fr.put, thenE, inBlockE, Oper.semAt, yieldF, h0, h4]
    refine on_kf hK16 [(0, .slice none 0 0), (2, .slice none 0 0), (4, .bool true)] (by simp [h0, h4]) hds ?_
    clear hK16 h0 h4 hds; intro s hs hds
    obtain ⟨h0, h2, h4⟩ := facts3 hs; clear hs
    refine at_ret rfl ?_
    simp only [inBlockE, thenE]
    refine ret_one rfl hds ?_
    rw [h2]
    exact ⟨hr, Frm.refl _ _, fun k hk => by cases hk⟩
  · have hq := fun w => Lib.run_eql_slice_nil (P := Try.prog) w 27 31 (some ⟨g, 0, none⟩) l.length cp 0 0 Try.underlying27
    have hA := Frm.alloc (fun _ => False) w (.cells #[] 31)
    have hrA := hr.frm hA (fun _ _ h => h)
    have hmade : Row (w.alloc (.cells #[] 31)) 31 5 (.slice (some ⟨w.heap.size, 0, none⟩) 0 0) 0 [] := World.ownsRow_made (base := 0) (e := 31) (size := 5) w #[] 0 (Nat.zero_le _) (by unfold maxLen; omega) rfl
    obtain ⟨v', w1, hap, hrow1, hfr1, _, hown1⟩ := Row.append hmade (P := Try.prog) (t := 27) (ty := 27) Try.underlying27 info31 rfl (by decide) ⟨g, 0, none⟩ l.length cp (cellsOf l) (cellsOf_len l)
      (World.ownsRow.cells hrA (g := g) rfl) (by intro u hu; obtain ⟨r, _, hr⟩ := List.mem_flatMap.1 hu; simp [Rq.enc] at hr; rcases hr with rfl | rfl | rfl | rfl | rfl <;> rfl) (by unfold maxLen; omega) (by omega)
    refine calls_at body7 Try.func7 rfl 8 rfl (by simp) fun s hs hds => ?_
    have h0 := hs 0 _ rfl
    clear hs
    refine at_seq rfl fun K17 hK17 => ?_
    (conv => arg 4; whnf)
    refine fw_region_lit rfl ?_
    simp [go_sem, opsF, opF, upF, Region.wanted, Fr.ev, Fr.put, thenE, inBlockE, Oper.semAt, yieldF, h0]
    refine on_kf hK17 [(0, .slice (some ⟨g, 0, none⟩) l.length cp)] (by simp [h0]) hds ?_
    clear hK17 h0 hds; intro s hs hds
    have h0 : s.t 0 = .slice (some ⟨g, 0, none⟩) l.length cp := hs (0, _) (List.mem_singleton_self _); clear hs
    refine at_seq rfl fun K18 hK18 => ?_
    refine at_seq rfl fun K19 hK19 => ?_
    (conv => arg 4; whnf)
    refine fw_region_lit rfl ?_
    simp [go_sem, opsF, opF, upF, Region.wanted, Fr.ev, Fr.put, thenE, inBlockE, Oper.semAt, yieldF, h0, hq]
    refine on_kf hK19 [(0, .slice (some ⟨g, 0, none⟩) l.length cp), (4, .bool false)] (by simp [h0]) hds ?_
    clear hK19 h0 hds; intro s hs hds
    obtain ⟨h0, h4⟩ := facts2 hs; clear hs
    refine at_false 4 rfl h4 ?_
    refine at_skip rfl ?_
    simp only [inBlockE, thenE]
    refine on_kf hK18 [(0, .slice (some ⟨g, 0, none⟩) l.length cp)] (by simp [h0, h4]) hds ?_
    clear hK18 h0 h4 hds; intro s hs hds
    have h0 : s.t 0 = .slice (some ⟨g, 0, none⟩) l.length cp := hs (0, _) (List.mem_singleton_self _); clear hs
    refine at_seq rfl fun K20 hK20 => ?_
    (conv => arg 4; whnf)
    refine fw_region_lit rfl ?_
    refine ops_take 2 fun KO hKO => ?_
    simp [go_sem, opsF, opF, upF, Region.wanted, Fr.ev, Fr.put, thenE, inBlockE, Oper.semAt, yieldF, h0]
    refine hKO _ _ ?_
    clear hKO
    refine ops_append rfl rfl rfl (v := .slice (some ⟨w.heap.size, 0, none⟩) 0 0) (u := .slice (some ⟨g, 0, none⟩) l.length cp) (by simp [Fr.ev]) (by simp [Fr.ev]) hap ?_
    simp [go_sem, opsF, opF, upF, Region.wanted, Fr.ev, Fr.put, thenE, inBlockE, Oper.semAt, yieldF, h0]
    refine on_kf hK20 [(0, .slice (some ⟨g, 0, none⟩) l.length cp), (2, v')] (by simp [h0]) hds ?_
    clear hK20 h0 hds; intro s hs hds
    obtain ⟨h0, h2⟩ := facts2 hs; clear hs
    refine at_ret rfl ?_
    refine ret_one rfl hds ?_
    rw [h2]
    simp only [Nat.zero_add, List.nil_append] at hrow1
    refine ⟨hrow1, hA.trans hfr1 (fun i hi h => by cases h; exact absurd hi (by simp)), fun k hk => ?_⟩
    rcases hown1 k hk with h | h
    · cases h; exact ⟨Nat.le_refl _, hrow1.lt _ hk⟩
    · exact ⟨by have := hA.size; omega, h.2⟩

noncomputable def body10 : Code := Try.f10.body.getD .skip

def EqI (w0 : World) (n : Nat) (u v : Value) (m : Nat) (s : Fr) (w : World) : Prop :=
  ∃ i : Nat, i ≤ n ∧ m = n - i ∧ s.ds = [] ∧ s.t 0 = u ∧ s.t 1 = v ∧ s.t 12 = .int .i64 (n : Int) ∧ s.t 13 = .int .i64 (i : Int) ∧ New w0 w

theorem equal_any (u v : Value) (l : List Rq) (w : World) (hu : Row w 31 5 u l.length (cellsOf l)) (hv : Row w 31 5 v l.length (cellsOf l)) :
    CallsV Try.prog 10 #[u, v] w fun b w' => b = .bool true ∧ New w w' := by
  obtain ⟨ad, cp, hlu, had⟩ : ∃ ad cp, u = .slice ad l.length cp ∧ (0 < l.length → ∃ g, ad = some ⟨g, 0, none⟩) := by
    rcases hu.val with ⟨h, h', _⟩ | ⟨g, cap, h, _⟩
    · exact ⟨none, 0, by rw [h, h'], fun h => by omega⟩
    · exact ⟨_, cap, h, fun _ => ⟨g, rfl⟩⟩
  obtain ⟨bd, cq, hlv, hbd⟩ : ∃ ad cp, v = .slice ad l.length cp ∧ (0 < l.length → ∃ g, ad = some ⟨g, 0, none⟩) := by
    rcases hv.val with ⟨h, h', _⟩ | ⟨g, cap, h, _⟩
    · exact ⟨none, 0, by rw [h, h'], fun h => by omega⟩
    · exact ⟨_, cap, h, fun _ => ⟨g, rfl⟩⟩
  have hlen : l.length ≤ 9223372036854775807 := by
    rcases hu.val with ⟨_, h', _⟩ | ⟨g, cap, _, h, h'⟩
    · omega
    · unfold maxLen at h'; omega
  subst hlu hlv
  refine calls_at body10 Try.func10 rfl 26 rfl (by simp) fun s hs hds => ?_
  have h0 := hs 0 _ rfl
  have h1 := hs 1 _ rfl
  clear hs
  refine at_seq rfl fun K21 hK21 => ?_
  (conv => arg 4; whnf)
  refine fw_region_lit rfl ?_
  simp [go_sem, opsF, opF, upF, Region.wanted, Fr.ev, Fr.put, thenE, inBlockE, Oper.semAt, yieldF, h0, h1]
  refine on_kf hK21 [(0, .slice ad l.length cp), (1, .slice bd l.length cq)] (by simp [h0, h1]) hds ?_
  clear hK21 h0 h1 hds; intro s hs hds
  obtain ⟨h0, h1⟩ := facts2 hs; clear hs
  refine at_seq rfl fun K22 hK22 => ?_
  refine at_seq rfl fun K23 hK23 => ?_
  (conv => arg 4; whnf)
  refine fw_region_lit rfl ?_
  simp [go_sem, opsF, opF, upF, Region.wanted, Fr.ev, Fr.put, thenE, inBlockE, Oper.semAt, yieldF, h0, h1]
  refine on_kf hK23 [(0, .slice ad l.length cp), (1, .slice bd l.length cq), (10, .bool false)] (by simp [h0, h1]) hds ?_
  clear hK23 h0 h1 hds; intro s hs hds
  obtain ⟨h0, h1, h10⟩ := facts3 hs; clear hs
  refine at_false 10 rfl h10 ?_
  refine at_skip rfl ?_
  simp only [inBlockE, thenE]
  refine on_kf hK22 [(0, .slice ad l.length cp), (1, .slice bd l.length cq)] (by simp [h0, h1, h10]) hds ?_
  clear hK22 h0 h1 h10 hds; intro s hs hds
  obtain ⟨h0, h1⟩ := facts2 hs; clear hs
  refine at_seq rfl fun K24 hK24 => ?_
  refine at_seq rfl fun K25 hK25 => ?_
  (conv => arg 4; whnf)
  refine fw_region_lit rfl ?_
  simp [go_sem, opsF, opF, upF, Region.wanted, Fr.ev, Fr.put, thenE, inBlockE, Oper.semAt, yieldF, h0, h1]
  refine on_kf hK25 [(0, .slice ad l.length cp), (1, .slice bd l.length cq), (12, .int .i64 (l.length : Int)), (13, .int .i64 ((0 : Nat) : Int))] (by simp [h0, h1]) hds ?_
  clear hK25 h0 h1 hds; intro s hs hds
  obtain ⟨h0, h1, h12, h13⟩ := facts4 hs; clear hs
  refine at_block 0 rfl ?_
  refine at_loop rfl (EqI w l.length (.slice ad l.length cp) (.slice bd l.length cq)) l.length ⟨0, by omega, by omega, hds, h0, h1, h12, h13, Frm.refl _ _⟩ ?_
  clear h0 h1 h12 h13 hds s
  rintro m s w1 ⟨i, hi, rfl, hds, h0, h1, h12, h13, hw⟩
  by_cases hlt : i < l.length
  · have d0 : (i : Int) < (l.length : Int) := by omega
    refine at_seq rfl fun K26 hK26 => ?_
    (conv => arg 4; whnf)
    refine fw_region_lit rfl ?_
    simp [go_sem, opsF, opF, upF, Region.wanted, Fr.ev, Fr.put, thenE, inBlockE, Oper.semAt, yieldF, h0, h1, h12, h13, d0]
    refine on_kf hK26 [(0, .slice ad l.length cp), (1, .slice bd l.length cq), (12, .int .i64 (l.length : Int)), (13, .int .i64 (i : Int)), (14, .bool true)] (by simp [h0, h1, h12, h13]) hds ?_
    clear hK26 h0 h1 h12 h13 hds; intro s hs hds
    obtain ⟨h0, h1, h12, h13, h14⟩ := facts5 hs; clear hs
    refine at_seq rfl fun K27 hK27 => ?_
    refine at_true 14 rfl h14 ?_
    refine at_skip rfl ?_
    simp only [inBlockE, thenE]
    refine on_kf hK27 [(0, .slice ad l.length cp), (1, .slice bd l.length cq), (12, .int .i64 (l.length : Int)), (13, .int .i64 (i : Int))] (by simp [h0, h1, h12, h13, h14]) hds ?_
    clear hK27 h0 h1 h12 h13 h14 hds; intro s hs hds
    obtain ⟨h0, h1, h12, h13⟩ := facts4 hs; clear hs
    refine at_seq rfl fun K28 hK28 => ?_
    refine at_block 1 rfl ?_
    refine at_seq rfl fun K29 hK29 => ?_
    (conv => arg 4; whnf)
    refine fw_region_lit rfl ?_
    simp [go_sem, opsF, opF, upF, Region.wanted, Fr.ev, Fr.put, thenE, inBlockE, Oper.semAt, yieldF, h0, h1, h12, h13]
    refine on_kf hK29 [(0, .slice ad l.length cp), (1, .slice bd l.length cq), (5, .int .i64 (i : Int)), (12, .int .i64 (l.length : Int)), (13, .int .i64 (i : Int))] (by simp [h0, h1, h12, h13]) hds ?_
    clear hK29 h0 h1 h12 h13 hds; intro s hs hds
    obtain ⟨h0, h1, h5, h12, h13⟩ := facts5 hs; clear hs
    obtain ⟨g, rfl⟩ := had (by omega)
    obtain ⟨g2, rfl⟩ := hbd (by omega)
    obtain ⟨r, hri⟩ : ∃ r, l[i]? = some r := ⟨l[i], by simp [hlt]⟩
    refine at_seq rfl fun K30 hK30 => ?_
    (conv => arg 4; whnf)
    refine draw_still mixed (by kernel_rfl) rfl fun w2 hw2 hn2 => ?_
    have hu1 := (hu.frm hw (fun _ _ h => h)).frm hn2 (fun _ _ h => h)
    have hv1 := (hv.frm hw (fun _ _ h => h)).frm hn2 (fun _ _ h => h)
    have e0 : w2.cell? ⟨g, i * 5, none⟩ = some (.int .i64 r.id) := hu1.cell (cellsOf_get l i 0 r hri (by decide))
    have e1 : w2.cell? ⟨g, i * 5 + 1, none⟩ = some (.int .i64 r.to) := hu1.cell (cellsOf_get l i 1 r hri (by decide))
    have e2 : w2.cell? ⟨g, i * 5 + 2, none⟩ = some (.int .i64 r.h) := hu1.cell (cellsOf_get l i 2 r hri (by decide))
    have e3 : w2.cell? ⟨g, i * 5 + 3, none⟩ = some (.int .i64 r.tm) := hu1.cell (cellsOf_get l i 3 r hri (by decide))
    have e4 : w2.cell? ⟨g, i * 5 + 4, none⟩ = some (.bool r.op) := hu1.cell (cellsOf_get l i 4 r hri (by decide))
    have f0 : w2.cell? ⟨g2, i * 5, none⟩ = some (.int .i64 r.id) := hv1.cell (cellsOf_get l i 0 r hri (by decide))
    have f1 : w2.cell? ⟨g2, i * 5 + 1, none⟩ = some (.int .i64 r.to) := hv1.cell (cellsOf_get l i 1 r hri (by decide))
    have f2 : w2.cell? ⟨g2, i * 5 + 2, none⟩ = some (.int .i64 r.h) := hv1.cell (cellsOf_get l i 2 r hri (by decide))
    have f3 : w2.cell? ⟨g2, i * 5 + 3, none⟩ = some (.int .i64 r.tm) := hv1.cell (cellsOf_get l i 3 r hri (by decide))
    have f4 : w2.cell? ⟨g2, i * 5 + 4, none⟩ = some (.bool r.op) := hv1.cell (cellsOf_get l i 4 r hri (by decide))
    simp [go_sem, stillsF, stillUpF, Region.wanted, Fr.ev, Fr.put, thenE, inBlockE, yieldF, h0, h1, h5, h12, h13, hlt, e0, e1, e2, e3, e4, f0, f1, f2, f3, f4]
    refine on_kf hK30 [(0, .slice (some ⟨g, 0, none⟩) l.length cp), (1, .slice (some ⟨g2, 0, none⟩) l.length cq), (5, .int .i64 (i : Int)), (12, .int .i64 (l.length : Int)), (13, .int .i64 (i : Int)), (24, .bool false)] (by simp [h0, h1, h5, h12, h13]) hds ?_
    clear hK30 h0 h1 h5 h12 h13 hds; intro s hs hds
    obtain ⟨h0, h1, h5, h12, h13, h24⟩ := facts6 hs; clear hs
    refine at_false 24 rfl h24 ?_
    refine at_skip rfl ?_
    simp only [inBlockE, thenE]
    have d1 : IntKind.i64.wrap ((i : Int) + 1) = (i : Int) + 1 := IntWalk.i64_in _ (by omega)
    refine on_kf hK28 [(0, .slice (some ⟨g, 0, none⟩) l.length cp), (1, .slice (some ⟨g2, 0, none⟩) l.length cq), (12, .int .i64 (l.length : Int)), (13, .int .i64 (i : Int))] (by simp [h0, h1, h5, h12, h13, h24]) hds ?_
    clear hK28 h0 h1 h5 h12 h13 h24 hds; intro s hs hds
    obtain ⟨h0, h1, h12, h13⟩ := facts4 hs; clear hs
    (conv => arg 4; whnf)
    refine fw_region_lit rfl ?_
    simp [go_sem, opsF, opF, upF, Region.wanted, Fr.ev, Fr.put, thenE, inBlockE, Oper.semAt, yieldF, h0, h1, h12, h13, d1]
    exact ⟨l.length - (i + 1), by omega, i + 1, by omega, rfl, by simp [hds], by simp [h0], by simp [h1], by simp [h12], by simp, New.trans hw hn2⟩
  · have d0 : ¬ (i : Int) < (l.length : Int) := by omega
    refine at_seq rfl fun K31 hK31 => ?_
    (conv => arg 4; whnf)
    refine fw_region_lit rfl ?_
    simp [go_sem, opsF, opF, upF, Region.wanted, Fr.ev, Fr.put, thenE, inBlockE, Oper.semAt, yieldF, h0, h1, h12, h13, d0]
    refine on_kf hK31 [(0, .slice ad l.length cp), (1, .slice bd l.length cq), (12, .int .i64 (l.length : Int)), (13, .int .i64 (i : Int)), (14, .bool false)] (by simp [h0, h1, h12, h13]) hds ?_
    clear hK31 h0 h1 h12 h13 hds; intro s hs hds
    obtain ⟨h0, h1, h12, h13, h14⟩ := facts5 hs; clear hs
    refine at_seq rfl fun K32 hK32 => ?_
    refine at_false 14 rfl h14 ?_
    refine at_exit 0 rfl ?_
    simp only [inBlockE, thenE]
    refine on_kf hK24 [(0, .slice ad l.length cp), (1, .slice bd l.length cq), (12, .int .i64 (l.length : Int)), (13, .int .i64 (i : Int))] (by simp [h0, h1, h12, h13, h14]) hds ?_
    clear hK24 h0 h1 h12 h13 h14 hds; intro s hs hds
    obtain ⟨h0, h1, h12, h13⟩ := facts4 hs; clear hs
    refine at_seq rfl fun K33 hK33 => ?_
    (conv => arg 4; whnf)
    refine fw_region_lit rfl ?_
    simp [go_sem, opsF, opF, upF, Region.wanted, Fr.ev, Fr.put, thenE, inBlockE, Oper.semAt, yieldF, h0, h1, h12, h13]
    refine on_kf hK33 [(0, .slice ad l.length cp), (1, .slice bd l.length cq), (4, .bool true), (12, .int .i64 (l.length : Int)), (13, .int .i64 (i : Int))] (by simp [h0, h1, h12, h13]) hds ?_
    clear hK33 h0 h1 h12 h13 hds; intro s hs hds
    obtain ⟨h0, h1, h4, h12, h13⟩ := facts5 hs; clear hs
    refine at_ret rfl ?_
    refine ret_one rfl hds ?_
    rw [h4]
    exact ⟨rfl, hw⟩

noncomputable def body13 : Code := Try.f13.body.getD .skip

theorem equalInt_any (u v : Value) (l : List Int) (w : World) (hu : Row w 3 1 u l.length (l.map (Value.int .i64))) (hv : Row w 3 1 v l.length (l.map (Value.int .i64))) :
    CallsV Try.prog 13 #[u, v] w fun b w' => b = .bool true ∧ New w w' := by
  obtain ⟨ad, cp, hlu, had⟩ : ∃ ad cp, u = .slice ad l.length cp ∧ (0 < l.length → ∃ g, ad = some ⟨g, 0, none⟩) := by
    rcases hu.val with ⟨h, h', _⟩ | ⟨g, cap, h, _⟩
    · exact ⟨none, 0, by rw [h, h'], fun h => by omega⟩
    · exact ⟨_, cap, h, fun _ => ⟨g, rfl⟩⟩
  obtain ⟨bd, cq, hlv, hbd⟩ : ∃ ad cp, v = .slice ad l.length cp ∧ (0 < l.length → ∃ g, ad = some ⟨g, 0, none⟩) := by
    rcases hv.val with ⟨h, h', _⟩ | ⟨g, cap, h, _⟩
    · exact ⟨none, 0, by rw [h, h'], fun h => by omega⟩
    · exact ⟨_, cap, h, fun _ => ⟨g, rfl⟩⟩
  have hlen : l.length ≤ 9223372036854775807 := by
    rcases hu.val with ⟨_, h', _⟩ | ⟨g, cap, _, h, h'⟩
    · omega
    · unfold maxLen at h'; omega
  subst hlu hlv
  refine calls_at body13 Try.func13 rfl 26 rfl (by simp) fun s hs hds => ?_
  have h0 := hs 0 _ rfl
  have h1 := hs 1 _ rfl
  clear hs
  refine at_seq rfl fun K34 hK34 => ?_
  (conv => arg 4; whnf)
  refine fw_region_lit rfl ?_
  simp [go_sem, opsF, opF, upF, Region.wanted, Fr.ev, Fr.put, thenE, inBlockE, Oper.semAt, yieldF, h0, h1]
  refine on_kf hK34 [(0, .slice ad l.length cp), (1, .slice bd l.length cq)] (by simp [h0, h1]) hds ?_
  clear hK34 h0 h1 hds; intro s hs hds
  obtain ⟨h0, h1⟩ := facts2 hs; clear hs
  refine at_seq rfl fun K35 hK35 => ?_
  refine at_seq rfl fun K36 hK36 => ?_
  (conv => arg 4; whnf)
  refine fw_region_lit rfl ?_
  simp [go_sem, opsF, opF, upF, Region.wanted, Fr.ev, Fr.put, thenE, inBlockE, Oper.semAt, yieldF, h0, h1]
  refine on_kf hK36 [(0, .slice ad l.length cp), (1, .slice bd l.length cq), (10, .bool false)] (by simp [h0, h1]) hds ?_
  clear hK36 h0 h1 hds; intro s hs hds
  obtain ⟨h0, h1, h10⟩ := facts3 hs; clear hs
  refine at_false 10 rfl h10 ?_
  refine at_skip rfl ?_
  simp only [inBlockE, thenE]
  refine on_kf hK35 [(0, .slice ad l.length cp), (1, .slice bd l.length cq)] (by simp [h0, h1, h10]) hds ?_
  clear hK35 h0 h1 h10 hds; intro s hs hds
  obtain ⟨h0, h1⟩ := facts2 hs; clear hs
  refine at_seq rfl fun K37 hK37 => ?_
  refine at_seq rfl fun K38 hK38 => ?_
  (conv => arg 4; whnf)
  refine fw_region_lit rfl ?_
  simp [go_sem, opsF, opF, upF, Region.wanted, Fr.ev, Fr.put, thenE, inBlockE, Oper.semAt, yieldF, h0, h1]
  refine on_kf hK38 [(0, .slice ad l.length cp), (1, .slice bd l.length cq), (12, .int .i64 (l.length : Int)), (13, .int .i64 ((0 : Nat) : Int))] (by simp [h0, h1]) hds ?_
  clear hK38 h0 h1 hds; intro s hs hds
  obtain ⟨h0, h1, h12, h13⟩ := facts4 hs; clear hs
  refine at_block 0 rfl ?_
  refine at_loop rfl (EqI w l.length (.slice ad l.length cp) (.slice bd l.length cq)) l.length ⟨0, by omega, by omega, hds, h0, h1, h12, h13, Frm.refl _ _⟩ ?_
  clear h0 h1 h12 h13 hds s
  rintro m s w1 ⟨i, hi, rfl, hds, h0, h1, h12, h13, hw⟩
  by_cases hlt : i < l.length
  · have d0 : (i : Int) < (l.length : Int) := by omega
    refine at_seq rfl fun K39 hK39 => ?_
    (conv => arg 4; whnf)
    refine fw_region_lit rfl ?_
    simp [go_sem, opsF, opF, upF, Region.wanted, Fr.ev, Fr.put, thenE, inBlockE, Oper.semAt, yieldF, h0, h1, h12, h13, d0]
    refine on_kf hK39 [(0, .slice ad l.length cp), (1, .slice bd l.length cq), (12, .int .i64 (l.length : Int)), (13, .int .i64 (i : Int)), (14, .bool true)] (by simp [h0, h1, h12, h13]) hds ?_
    clear hK39 h0 h1 h12 h13 hds; intro s hs hds
    obtain ⟨h0, h1, h12, h13, h14⟩ := facts5 hs; clear hs
    refine at_seq rfl fun K40 hK40 => ?_
    refine at_true 14 rfl h14 ?_
    refine at_skip rfl ?_
    simp only [inBlockE, thenE]
    refine on_kf hK40 [(0, .slice ad l.length cp), (1, .slice bd l.length cq), (12, .int .i64 (l.length : Int)), (13, .int .i64 (i : Int))] (by simp [h0, h1, h12, h13, h14]) hds ?_
    clear hK40 h0 h1 h12 h13 h14 hds; intro s hs hds
    obtain ⟨h0, h1, h12, h13⟩ := facts4 hs; clear hs
    refine at_seq rfl fun K41 hK41 => ?_
    refine at_block 1 rfl ?_
    refine at_seq rfl fun K42 hK42 => ?_
    (conv => arg 4; whnf)
    refine fw_region_lit rfl ?_
    simp [go_sem, opsF, opF, upF, Region.wanted, Fr.ev, Fr.put, thenE, inBlockE, Oper.semAt, yieldF, h0, h1, h12, h13]
    refine on_kf hK42 [(0, .slice ad l.length cp), (1, .slice bd l.length cq), (5, .int .i64 (i : Int)), (12, .int .i64 (l.length : Int)), (13, .int .i64 (i : Int))] (by simp [h0, h1, h12, h13]) hds ?_
    clear hK42 h0 h1 h12 h13 hds; intro s hs hds
    obtain ⟨h0, h1, h5, h12, h13⟩ := facts5 hs; clear hs
    obtain ⟨g, rfl⟩ := had (by omega)
    obtain ⟨g2, rfl⟩ := hbd (by omega)
    obtain ⟨r, hri⟩ : ∃ r, l[i]? = some r := ⟨l[i], by simp [hlt]⟩
    refine at_seq rfl fun K43 hK43 => ?_
    (conv => arg 4; whnf)
    refine draw_still mixed (by kernel_rfl) rfl fun w2 hw2 hn2 => ?_
    have hu1 := (hu.frm hw (fun _ _ h => h)).frm hn2 (fun _ _ h => h)
    have hv1 := (hv.frm hw (fun _ _ h => h)).frm hn2 (fun _ _ h => h)
    have e0 : w2.cell? ⟨g, i, none⟩ = some (.int .i64 r) := hu1.cell (by simp [hri])
    have f0 : w2.cell? ⟨g2, i, none⟩ = some (.int .i64 r) := hv1.cell (by simp [hri])
    simp [go_sem, stillsF, stillUpF, Region.wanted, Fr.ev, Fr.put, thenE, inBlockE, yieldF, h0, h1, h5, h12, h13, hlt, e0, f0]
    refine on_kf hK43 [(0, .slice (some ⟨g, 0, none⟩) l.length cp), (1, .slice (some ⟨g2, 0, none⟩) l.length cq), (5, .int .i64 (i : Int)), (12, .int .i64 (l.length : Int)), (13, .int .i64 (i : Int)), (24, .bool false)] (by simp [h0, h1, h5, h12, h13]) hds ?_
    clear hK43 h0 h1 h5 h12 h13 hds; intro s hs hds
    obtain ⟨h0, h1, h5, h12, h13, h24⟩ := facts6 hs; clear hs
    refine at_false 24 rfl h24 ?_
    refine at_skip rfl ?_
    simp only [inBlockE, thenE]
    have d1 : IntKind.i64.wrap ((i : Int) + 1) = (i : Int) + 1 := IntWalk.i64_in _ (by omega)
    refine on_kf hK41 [(0, .slice (some ⟨g, 0, none⟩) l.length cp), (1, .slice (some ⟨g2, 0, none⟩) l.length cq), (12, .int .i64 (l.length : Int)), (13, .int .i64 (i : Int))] (by simp [h0, h1, h5, h12, h13, h24]) hds ?_
    clear hK41 h0 h1 h5 h12 h13 h24 hds; intro s hs hds
    obtain ⟨h0, h1, h12, h13⟩ := facts4 hs; clear hs
    (conv => arg 4; whnf)
    refine fw_region_lit rfl ?_
    simp [go_sem, opsF, opF, upF, Region.wanted, Fr.ev, Fr.put, thenE, inBlockE, Oper.semAt, yieldF, h0, h1, h12, h13, d1]
    exact ⟨l.length - (i + 1), by omega, i + 1, by omega, rfl, by simp [hds], by simp [h0], by simp [h1], by simp [h12], by simp, New.trans hw hn2⟩
  · have d0 : ¬ (i : Int) < (l.length : Int) := by omega
    refine at_seq rfl fun K44 hK44 => ?_
    (conv => arg 4; whnf)
    refine fw_region_lit rfl ?_
    simp [go_sem, opsF, opF, upF, Region.wanted, Fr.ev, Fr.put, thenE, inBlockE, Oper.semAt, yieldF, h0, h1, h12, h13, d0]
    refine on_kf hK44 [(0, .slice ad l.length cp), (1, .slice bd l.length cq), (12, .int .i64 (l.length : Int)), (13, .int .i64 (i : Int)), (14, .bool false)] (by simp [h0, h1, h12, h13]) hds ?_
    clear hK44 h0 h1 h12 h13 hds; intro s hs hds
    obtain ⟨h0, h1, h12, h13, h14⟩ := facts5 hs; clear hs
    refine at_seq rfl fun K45 hK45 => ?_
    refine at_false 14 rfl h14 ?_
    refine at_exit 0 rfl ?_
    simp only [inBlockE, thenE]
    refine on_kf hK37 [(0, .slice ad l.length cp), (1, .slice bd l.length cq), (12, .int .i64 (l.length : Int)), (13, .int .i64 (i : Int))] (by simp [h0, h1, h12, h13, h14]) hds ?_
    clear hK37 h0 h1 h12 h13 h14 hds; intro s hs hds
    obtain ⟨h0, h1, h12, h13⟩ := facts4 hs; clear hs
    refine at_seq rfl fun K46 hK46 => ?_
    (conv => arg 4; whnf)
    refine fw_region_lit rfl ?_
    simp [go_sem, opsF, opF, upF, Region.wanted, Fr.ev, Fr.put, thenE, inBlockE, Oper.semAt, yieldF, h0, h1, h12, h13]
    refine on_kf hK46 [(0, .slice ad l.length cp), (1, .slice bd l.length cq), (4, .bool true), (12, .int .i64 (l.length : Int)), (13, .int .i64 (i : Int))] (by simp [h0, h1, h12, h13]) hds ?_
    clear hK46 h0 h1 h12 h13 hds; intro s hs hds
    obtain ⟨h0, h1, h4, h12, h13⟩ := facts5 hs; clear hs
    refine at_ret rfl ?_
    refine ret_one rfl hds ?_
    rw [h4]
    exact ⟨rfl, hw⟩

end Go.Proofs.Ytiejaopidkghdaa
