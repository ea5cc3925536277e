/- A window. -/
import Derived.Test.YtiejaopidkghdabTe
namespace Go.Proofs.Ytiejaopidkghdab
set_option linter.unusedSimpArgs false
set_option linter.unusedVariables false
open Go.RowKit Go.Lf

theorem call20 (args : Array Value) (w : World) : (callFunc 20 args).run Try.prog w = .ok (.enter 20 args) w := by
  simp [go_sem]
theorem call22 (args : Array Value) (w : World) : (callFunc 22 args).run Try.prog w = .ok (.enter 22 args) w := by
  simp [go_sem]

noncomputable def body20 : Code := Try.f20.body.getD .skip
theorem comes_any (b1 b2 : Nat) (at_ y P D m d : Int) (w : World) (h1 : Blk w b1 #[.int .i64 y] 3) (h2 : Blk w b2 #[.int .i64 P, .int .i64 D, .int .i64 m, .int .i64 d] 24) (hD : -1 ≤ D ∧ D ≤ 1000) (ha : 0 ≤ at_ ∧ at_ ≤ 1099511627776) :
    CallsV Try.prog 20 #[.int .i64 at_, .pointer (some ⟨b1, 0, none⟩), .pointer (some ⟨b2, 0, none⟩)] w fun v w' => v = .bool (!decide (at_ + max D 1 ≤ y)) ∧ New w w' := by
  have x0 := h1.cell 0
  have y0 := h2.cell 0
  have y1 := h2.cell 1
  have y2 := h2.cell 2
  have y3 := h2.cell 3
  simp only [List.getElem?_toArray, List.getElem?_cons_zero, List.getElem?_cons_succ] at x0 y0 y1 y2 y3
  clear h1 h2
  refine calls_at body20 Try.func20 rfl 10 rfl (by simp) fun s hs hds => ?_
  have h0 := hs 0 _ rfl
  have h1 := hs 1 _ rfl
  have h2 := hs 2 _ rfl
  clear hs
  refine at_seq rfl fun K1 hK1 => ?_
  (conv => arg 4; whnf)
  refine fw_region_lit rfl ?_
  simp [go_sem, opsF, opF, upF, Region.wanted, Fr.ev, Fr.put, thenE, inBlockE, Oper.semAt, yieldF, h0, h1, h2]
  refine on_kf hK1 [(0, .int .i64 at_), (1, .pointer (some ⟨b1, 0, none⟩)), (2, .pointer (some ⟨b2, 0, none⟩))] (by simp [h0, h1, h2]) hds ?_
  clear hK1 h0 h1 h2 hds; intro s hs hds
  obtain ⟨h0, h1, h2⟩ := facts3 hs; clear hs
  refine at_seq rfl fun K2 hK2 => ?_
  (conv => arg 4; whnf)
  refine fw_region_lit rfl ?_
  simp [go_sem, opsF, opF, upF, Region.wanted, Fr.ev, Fr.put, thenE, inBlockE, Oper.semAt, yieldF, h0, h1, h2, x0, y0, y1, y2, y3]
  refine (ahead_any at_ y P D m d w hD ha).on ?_
  rintro _ w1 ⟨rfl, hw1⟩
  simp [go_sem, opsF, opF, upF, Region.wanted, Fr.ev, Fr.put, thenE, inBlockE, Oper.semAt, yieldF, h0, h1, h2]
  refine on_kf hK2 [(0, .int .i64 at_), (1, .pointer (some ⟨b1, 0, none⟩)), (2, .pointer (some ⟨b2, 0, none⟩)), (4, .bool (!decide (at_ + max D 1 ≤ y)))] (by simp [h0, h1, h2]) hds ?_
  clear hK2 h0 h1 h2 hds; intro s hs hds
  obtain ⟨h0, h1, h2, h4⟩ := facts4 hs; clear hs
  exact at_ret rfl (ret_one rfl hds ⟨h4, hw1⟩)

noncomputable def body22 : Code := Try.f22.body.getD .skip
theorem goes_any (b1 b2 : Nat) (at_ x P D m d : Int) (w : World) (h1 : Blk w b1 #[.int .i64 x] 3) (h2 : Blk w b2 #[.int .i64 P, .int .i64 D, .int .i64 m, .int .i64 d] 24) (hP : 0 ≤ P ∧ P ≤ 1000) (hx : 0 ≤ x ∧ x ≤ 1099511627776) :
    CallsV Try.prog 22 #[.int .i64 at_, .pointer (some ⟨b1, 0, none⟩), .pointer (some ⟨b2, 0, none⟩)] w fun v w' => v = .bool (decide (x + P ≤ at_)) ∧ New w w' := by
  have x0 := h1.cell 0
  have y0 := h2.cell 0
  have y1 := h2.cell 1
  have y2 := h2.cell 2
  have y3 := h2.cell 3
  simp only [List.getElem?_toArray, List.getElem?_cons_zero, List.getElem?_cons_succ] at x0 y0 y1 y2 y3
  clear h1 h2
  refine calls_at body22 Try.func22 rfl 9 rfl (by simp) fun s hs hds => ?_
  have h0 := hs 0 _ rfl
  have h1 := hs 1 _ rfl
  have h2 := hs 2 _ rfl
  clear hs
  refine at_seq rfl fun K3 hK3 => ?_
  (conv => arg 4; whnf)
  refine fw_region_lit rfl ?_
  simp [go_sem, opsF, opF, upF, Region.wanted, Fr.ev, Fr.put, thenE, inBlockE, Oper.semAt, yieldF, h0, h1, h2]
  refine on_kf hK3 [(0, .int .i64 at_), (1, .pointer (some ⟨b1, 0, none⟩)), (2, .pointer (some ⟨b2, 0, none⟩))] (by simp [h0, h1, h2]) hds ?_
  clear hK3 h0 h1 h2 hds; intro s hs hds
  obtain ⟨h0, h1, h2⟩ := facts3 hs; clear hs
  refine at_seq rfl fun K4 hK4 => ?_
  (conv => arg 4; whnf)
  refine fw_region_lit rfl ?_
  simp [go_sem, opsF, opF, upF, Region.wanted, Fr.ev, Fr.put, thenE, inBlockE, Oper.semAt, yieldF, h0, h1, h2, x0, y0, y1, y2, y3]
  refine (expires_any at_ x P D m d w hP hx).on ?_
  rintro _ w1 ⟨rfl, hw1⟩
  refine on_kf hK4 [(0, .int .i64 at_), (1, .pointer (some ⟨b1, 0, none⟩)), (2, .pointer (some ⟨b2, 0, none⟩)), (4, .bool (decide (x + P ≤ at_)))] (by simp [h0, h1, h2]) hds ?_
  clear hK4 h0 h1 h2 hds; intro s hs hds
  obtain ⟨h0, h1, h2, h4⟩ := facts4 hs; clear hs
  exact at_ret rfl (ret_one rfl hds ⟨h4, hw1⟩)

def winOf (x y P D m d : Int) : Value :=
  if badOf P D m d = 0 then (if x + P ≤ max 0 (y - max D 1 + 1) then .tuple #[.int .i64 0, .int .i64 0, .int .i64 16] else .tuple #[.int .i64 (max 0 (y - max D 1 + 1)), .int .i64 (x + P - 1), .int .i64 0])
  else .tuple #[.int .i64 0, .int .i64 0, .int .i64 (badOf P D m d)]

noncomputable def body6 : Code := Try.f6.body.getD .skip
set_option maxHeartbeats 1000000 in
theorem window_any (x y P D m d : Int) (w : World) (hP : 0 ≤ P ∧ P ≤ 1000) (hD : -1 ≤ D ∧ D ≤ 1000) (hm : 0 ≤ m ∧ m ≤ 100) (hd : 0 ≤ d ∧ d ≤ 100) (hx : 0 ≤ x ∧ x ≤ 1000) (hy : 0 ≤ y ∧ y ≤ 1000) :
    CallsV Try.prog 6 #[.int .i64 x, .int .i64 y, tv P D m d] w fun v w' => v = winOf x y P D m d ∧ New w w' := by
  refine calls_at body6 Try.func6 rfl 33 rfl (by simp) fun s hs hds => ?_
  have h0 := hs 0 _ rfl
  have h1 := hs 1 _ rfl
  have h2 := hs 2 _ rfl
  clear hs
  unfold tv at h2
  refine at_seq rfl fun K5 hK5 => ?_
  (conv => arg 4; whnf)
  refine fw_region_lit rfl ?_
  simp [go_sem, opsF, opF, upF, Region.wanted, Fr.ev, Fr.put, thenE, inBlockE, Oper.semAt, yieldF, h0, h1, h2]
  have hA1 := Frm.alloc (fun _ => False) w (.cells #[.int .i64 x] 3)
  have hb1 := Blk.new w #[.int .i64 x] 3
  have hA2 := Frm.alloc (fun _ => False) (w.alloc (.cells #[.int .i64 x] 3)) (.cells #[.int .i64 y] 3)
  have hb2 := Blk.new (w.alloc (.cells #[.int .i64 x] 3)) #[.int .i64 y] 3
  have hA3 := Frm.alloc (fun _ => False) ((w.alloc (.cells #[.int .i64 x] 3)).alloc (.cells #[.int .i64 y] 3)) (.cells #[.int .i64 P, .int .i64 D, .int .i64 m, .int .i64 d] 24)
  have hb3 := Blk.new ((w.alloc (.cells #[.int .i64 x] 3)).alloc (.cells #[.int .i64 y] 3)) #[.int .i64 P, .int .i64 D, .int .i64 m, .int .i64 d] 24
  simp only [World.size_alloc] at hb2 hb3
  have hw1 := New.trans (New.trans hA1 hA2) hA3
  have hb1' := (hb1.frm hA2 (fun h => h)).frm hA3 (fun h => h)
  have hb2' := hb2.frm hA3 (fun h => h)
  clear hA1 hA2 hA3 hb1 hb2
  refine on_kf hK5 [(3, .pointer (some ⟨w.heap.size, 0, none⟩)), (4, .pointer (some ⟨w.heap.size + 1, 0, none⟩)), (5, .pointer (some ⟨w.heap.size + 1 + 1, 0, none⟩)), (6, .int .i64 0), (7, .int .i64 0), (8, .int .i64 0)] (by simp [h0, h1, h2]) hds ?_
  clear hK5 h0 h1 h2 hds; intro s hs hds
  obtain ⟨h3, h4, h5, h6, h7, h8⟩ := facts6 hs; clear hs
  generalize ((w.alloc (.cells #[.int .i64 x] 3)).alloc (.cells #[.int .i64 y] 3)).alloc (.cells #[.int .i64 P, .int .i64 D, .int .i64 m, .int .i64 d] 24) = w1 at *
  generalize w.heap.size + 1 + 1 = b3 at *
  generalize w.heap.size + 1 = b2 at *
  generalize w.heap.size = b1 at *
  have u0 := hb1'.cell 0
  have v0 := hb2'.cell 0
  have y0 := hb3.cell 0
  have y1 := hb3.cell 1
  have y2 := hb3.cell 2
  have y3 := hb3.cell 3
  simp only [List.getElem?_toArray, List.getElem?_cons_zero, List.getElem?_cons_succ] at u0 v0 y0 y1 y2 y3
  refine at_seq rfl fun K6 hK6 => ?_
  refine at_seq rfl fun K7 hK7 => ?_
  (conv => arg 4; whnf)
  refine fw_region_lit rfl ?_
  simp [go_sem, opsF, opF, upF, Region.wanted, Fr.ev, Fr.put, thenE, inBlockE, Oper.semAt, yieldF, h3, h4, h5, h6, h7, h8, u0, v0, y0, y1, y2, y3]
  refine (asked_any x y P D m d w1 hP hD hm hd ⟨hx.1, by omega⟩ ⟨hy.1, by omega⟩).on ?_
  rintro _ w2 ⟨rfl, hw2⟩
  refine on_kf hK7 [(3, .pointer (some ⟨b1, 0, none⟩)), (4, .pointer (some ⟨b2, 0, none⟩)), (5, .pointer (some ⟨b3, 0, none⟩)), (6, .int .i64 0), (7, .int .i64 0), (8, .int .i64 0), (9, .int .i64 (badOf P D m d))] (by simp [h3, h4, h5, h6, h7, h8]) hds ?_
  clear hK7 h3 h4 h5 h6 h7 h8 hds; intro s hs hds
  obtain ⟨h3, h4, h5, h6, h7, h8, h9⟩ := facts7 hs; clear hs
  unfold winOf at *
  refine at_seq rfl fun K8 hK8 => ?_
  generalize hbd : badOf P D m d = bad at *
  by_cases hz : bad = 0
  · (conv => arg 4; whnf)
    refine fw_region_lit rfl ?_
    simp [go_sem, opsF, opF, upF, Region.wanted, Fr.ev, Fr.put, thenE, inBlockE, Oper.semAt, yieldF, h3, h4, h5, h6, h7, h8, h9, hz]
    refine on_kf hK8 [(3, .pointer (some ⟨b1, 0, none⟩)), (4, .pointer (some ⟨b2, 0, none⟩)), (5, .pointer (some ⟨b3, 0, none⟩)), (6, .int .i64 0), (7, .int .i64 0), (8, .int .i64 0), (9, .int .i64 bad), (19, .bool false)] (by simp [h3, h4, h5, h6, h7, h8, h9]) hds ?_
    clear hK8 h3 h4 h5 h6 h7 h8 h9 hds; intro s hs hds
    obtain ⟨h3, h4, h5, h6, h7, h8, h9, h19⟩ := facts8 hs; clear hs
    refine at_false 19 rfl h19 ?_
    refine at_skip rfl ?_
    simp only [inBlockE, thenE]
    refine on_kf hK6 [(3, .pointer (some ⟨b1, 0, none⟩)), (4, .pointer (some ⟨b2, 0, none⟩)), (5, .pointer (some ⟨b3, 0, none⟩))] (by simp [h3, h4, h5, h6, h7, h8, h9, h19]) hds ?_
    clear hK6 h3 h4 h5 h6 h7 h8 h9 h19 hds; intro s hs hds
    obtain ⟨h3, h4, h5⟩ := facts3 hs; clear hs
    refine at_seq rfl fun K9 hK9 => ?_
    (conv => arg 4; whnf)
    refine fw_region_lit rfl ?_
    simp [go_sem, opsF, opF, upF, Region.wanted, Fr.ev, Fr.put, thenE, inBlockE, Oper.semAt, yieldF, h3, h4, h5]
    refine on_kf hK9 [(3, .pointer (some ⟨b1, 0, none⟩)), (4, .pointer (some ⟨b2, 0, none⟩)), (5, .pointer (some ⟨b3, 0, none⟩)), (10, .func (.func 20) #[] #[.pointer (some ⟨b2, 0, none⟩), .pointer (some ⟨b3, 0, none⟩)])] (by simp [h3, h4, h5]) hds ?_
    clear hK9 h3 h4 h5 hds; intro s hs hds
    obtain ⟨h3, h4, h5, h10⟩ := facts4 hs; clear hs
    refine at_seq rfl fun K10 hK10 => ?_
    (conv => arg 4; whnf)
    refine fw_region_lit rfl ?_
    simp [go_sem, opsF, opF, upF, Region.wanted, Fr.ev, Fr.put, thenE, inBlockE, Oper.semAt, yieldF, h3, h4, h5, h10]
    refine on_kf hK10 [(3, .pointer (some ⟨b1, 0, none⟩)), (4, .pointer (some ⟨b2, 0, none⟩)), (5, .pointer (some ⟨b3, 0, none⟩)), (10, .func (.func 20) #[] #[.pointer (some ⟨b2, 0, none⟩), .pointer (some ⟨b3, 0, none⟩)]), (11, .func (.func 22) #[] #[.pointer (some ⟨b1, 0, none⟩), .pointer (some ⟨b3, 0, none⟩)])] (by simp [h3, h4, h5, h10]) hds ?_
    clear hK10 h3 h4 h5 h10 hds; intro s hs hds
    obtain ⟨h3, h4, h5, h10, h11⟩ := facts5 hs; clear hs
    have B1 := hb1'.frm hw2 (fun h => h)
    have B2 := hb2'.frm hw2 (fun h => h)
    have B3 := hb3.frm hw2 (fun h => h)
    have hdd : 1 ≤ max D 1 ∧ max D 1 ≤ 1000 := by omega
    refine at_seq rfl fun K11 hK11 => ?_
    (conv => arg 4; whnf)
    refine fw_region_lit rfl ?_
    simp [go_sem, opsF, opF, upF, Region.wanted, Fr.ev, Fr.put, thenE, inBlockE, Oper.semAt, yieldF, h3, h4, h5, h10, h11]
    refine (search_any 20 #[.pointer (some ⟨b2, 0, none⟩), .pointer (some ⟨b3, 0, none⟩)] 1099511627777 (fun a => !decide (a + max D 1 ≤ y)) w2 (by omega) call20 (fun a w1 hn h1 h2 => by
      have := comes_any b2 b3 a y P D m d w1 (B2.frm hn (fun h => h)) (B3.frm hn (fun h => h)) hD ⟨h1, by omega⟩
      exact this) (fun a b hab h => by simp at h ⊢; omega)).on ?_
    rintro _ w3 ⟨⟨r1, rfl, p1, p2, p3, p4⟩, hw3⟩
    refine (search_any 22 #[.pointer (some ⟨b1, 0, none⟩), .pointer (some ⟨b3, 0, none⟩)] 1099511627777 (fun a => decide (x + P ≤ a)) w3 (by omega) call22 (fun a w1 hn h1 h2 => by
      have := goes_any b1 b3 a x P D m d w1 ((B1.frm hw3 (fun h => h)).frm hn (fun h => h)) ((B3.frm hw3 (fun h => h)).frm hn (fun h => h)) hP ⟨hx.1, by omega⟩
      exact this) (fun a b hab h => by simp at h ⊢; omega)).on ?_
    rintro _ w4 ⟨⟨r2, rfl, q1, q2, q3, q4⟩, hw4⟩
    have hr1 : r1 = max 0 (y - max D 1 + 1) := by
      have A := p3 (r1 - 1)
      have B := p4 r1
      have C := p4 (max 0 (y - max D 1 + 1))
      have E := p3 (max 0 (y - max D 1 + 1))
      simp at A B C E
      omega
    have hr2 : r2 = x + P := by
      have A := q3 (r2 - 1)
      have B := q4 r2
      have C := q4 (x + P)
      have E := q3 (x + P)
      simp at A B C E
      omega
    have hNW := New.trans (New.trans (New.trans hw1 hw2) hw3) hw4
    clear p3 p4 q3 q4
    refine on_kf hK11 [(3, .pointer (some ⟨b1, 0, none⟩)), (4, .pointer (some ⟨b2, 0, none⟩)), (5, .pointer (some ⟨b3, 0, none⟩)), (12, .int .i64 r1), (13, .int .i64 r2)] (by simp [h3, h4, h5, h10, h11]) hds ?_
    clear hK11 h3 h4 h5 h10 h11 hds; intro s hs hds
    obtain ⟨h3, h4, h5, h12, h13⟩ := facts5 hs; clear hs
    refine at_seq rfl fun K12 hK12 => ?_
    refine at_seq rfl fun K13 hK13 => ?_
    by_cases hge : r2 ≤ r1
    · (conv => arg 4; whnf)
      refine fw_region_lit rfl ?_
      simp [go_sem, opsF, opF, upF, Region.wanted, Fr.ev, Fr.put, thenE, inBlockE, Oper.semAt, yieldF, h3, h4, h5, h12, h13, hge]
      refine on_kf hK13 [(3, .pointer (some ⟨b1, 0, none⟩)), (4, .pointer (some ⟨b2, 0, none⟩)), (5, .pointer (some ⟨b3, 0, none⟩)), (12, .int .i64 r1), (13, .int .i64 r2), (29, .bool true)] (by simp [h3, h4, h5, h12, h13]) hds ?_
      clear hK13 h3 h4 h5 h12 h13 hds; intro s hs hds
      obtain ⟨h3, h4, h5, h12, h13, h29⟩ := facts6 hs; clear hs
      refine at_true 29 rfl h29 ?_
      refine at_seq rfl fun K14 hK14 => ?_
      (conv => arg 4; whnf)
      refine fw_region_lit rfl ?_
      simp [go_sem, opsF, opF, upF, Region.wanted, Fr.ev, Fr.put, thenE, inBlockE, Oper.semAt, yieldF, h3, h4, h5, h12, h13, h29]
      refine on_kf hK14 [(3, .pointer (some ⟨b1, 0, none⟩)), (4, .pointer (some ⟨b2, 0, none⟩)), (5, .pointer (some ⟨b3, 0, none⟩)), (6, .int .i64 0), (7, .int .i64 0), (8, .int .i64 16), (12, .int .i64 r1), (13, .int .i64 r2), (29, .bool true)] (by simp [h3, h4, h5, h12, h13, h29]) hds ?_
      clear hK14 h3 h4 h5 h12 h13 h29 hds; intro s hs hds
      obtain ⟨h3, h4, h5, h6, h7, h8, h12, h13, h29⟩ := facts9 hs; clear hs
      refine at_ret rfl ?_
      simp only [inBlockE, thenE]
      refine ret_three rfl hds ⟨?_, hNW⟩
      rw [h6, h7, h8, ← hr1, ← hr2, if_pos hz, if_pos hge]
    · (conv => arg 4; whnf)
      refine fw_region_lit rfl ?_
      simp [go_sem, opsF, opF, upF, Region.wanted, Fr.ev, Fr.put, thenE, inBlockE, Oper.semAt, yieldF, h3, h4, h5, h12, h13, hge]
      refine on_kf hK13 [(3, .pointer (some ⟨b1, 0, none⟩)), (4, .pointer (some ⟨b2, 0, none⟩)), (5, .pointer (some ⟨b3, 0, none⟩)), (12, .int .i64 r1), (13, .int .i64 r2), (29, .bool false)] (by simp [h3, h4, h5, h12, h13]) hds ?_
      clear hK13 h3 h4 h5 h12 h13 hds; intro s hs hds
      obtain ⟨h3, h4, h5, h12, h13, h29⟩ := facts6 hs; clear hs
      refine at_false 29 rfl h29 ?_
      refine at_skip rfl ?_
      simp only [inBlockE, thenE]
      refine on_kf hK12 [(3, .pointer (some ⟨b1, 0, none⟩)), (4, .pointer (some ⟨b2, 0, none⟩)), (5, .pointer (some ⟨b3, 0, none⟩)), (12, .int .i64 r1), (13, .int .i64 r2)] (by simp [h3, h4, h5, h12, h13, h29]) hds ?_
      clear hK12 h3 h4 h5 h12 h13 h29 hds; intro s hs hds
      obtain ⟨h3, h4, h5, h12, h13⟩ := facts5 hs; clear hs
      have d1 : IntKind.i64.wrap (r2 - 1) = r2 - 1 := IntWalk.i64_in _ (by omega)
      refine at_seq rfl fun K15 hK15 => ?_
      (conv => arg 4; whnf)
      refine fw_region_lit rfl ?_
      simp [go_sem, opsF, opF, upF, Region.wanted, Fr.ev, Fr.put, thenE, inBlockE, Oper.semAt, yieldF, h3, h4, h5, h12, h13, d1]
      refine on_kf hK15 [(3, .pointer (some ⟨b1, 0, none⟩)), (4, .pointer (some ⟨b2, 0, none⟩)), (5, .pointer (some ⟨b3, 0, none⟩)), (6, .int .i64 r1), (7, .int .i64 (r2 - 1)), (8, .int .i64 0), (12, .int .i64 r1), (13, .int .i64 r2)] (by simp [h3, h4, h5, h12, h13]) hds ?_
      clear hK15 h3 h4 h5 h12 h13 hds; intro s hs hds
      obtain ⟨h3, h4, h5, h6, h7, h8, h12, h13⟩ := facts8 hs; clear hs
      refine at_ret rfl ?_
      refine ret_three rfl hds ⟨?_, hNW⟩
      rw [h6, h7, h8, ← hr1, ← hr2, if_pos hz, if_neg hge]
  · have hz' : (bad != 0) = true := by simp [hz]
    (conv => arg 4; whnf)
    refine fw_region_lit rfl ?_
    simp [go_sem, opsF, opF, upF, Region.wanted, Fr.ev, Fr.put, thenE, inBlockE, Oper.semAt, yieldF, h3, h4, h5, h6, h7, h8, h9, hz']
    refine on_kf hK8 [(3, .pointer (some ⟨b1, 0, none⟩)), (4, .pointer (some ⟨b2, 0, none⟩)), (5, .pointer (some ⟨b3, 0, none⟩)), (6, .int .i64 0), (7, .int .i64 0), (8, .int .i64 0), (9, .int .i64 bad), (19, .bool true)] (by simp [h3, h4, h5, h6, h7, h8, h9]) hds ?_
    clear hK8 h3 h4 h5 h6 h7 h8 h9 hds; intro s hs hds
    obtain ⟨h3, h4, h5, h6, h7, h8, h9, h19⟩ := facts8 hs; clear hs
    refine at_true 19 rfl h19 ?_
    refine at_seq rfl fun K16 hK16 => ?_
    (conv => arg 4; whnf)
    refine fw_region_lit rfl ?_
    simp [go_sem, opsF, opF, upF, Region.wanted, Fr.ev, Fr.put, thenE, inBlockE, Oper.semAt, yieldF, h3, h4, h5, h6, h7, h8, h9, h19]
    refine on_kf hK16 [(3, .pointer (some ⟨b1, 0, none⟩)), (4, .pointer (some ⟨b2, 0, none⟩)), (5, .pointer (some ⟨b3, 0, none⟩)), (6, .int .i64 0), (7, .int .i64 0), (8, .int .i64 bad), (9, .int .i64 bad), (19, .bool true)] (by simp [h3, h4, h5, h6, h7, h8, h9, h19]) hds ?_
    clear hK16 h3 h4 h5 h6 h7 h8 h9 h19 hds; intro s hs hds
    obtain ⟨h3, h4, h5, h6, h7, h8, h9, h19⟩ := facts8 hs; clear hs
    refine at_ret rfl ?_
    simp only [inBlockE, thenE]
    refine ret_three rfl hds ⟨?_, New.trans hw1 hw2⟩
    rw [h6, h7, h8, if_neg hz]
end Go.Proofs.Ytiejaopidkghdab
