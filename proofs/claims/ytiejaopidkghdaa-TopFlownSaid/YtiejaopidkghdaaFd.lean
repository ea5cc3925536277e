/- Asking again; closing. -/
import Derived.Test.YtiejaopidkghdaaFc
namespace Go.Proofs.Ytiejaopidkghdaa
set_option linter.unusedSimpArgs false
set_option linter.unusedVariables false
open Go.RowKit Go.Lf

theorem ask_old (fb : Nat) (N : Int) (l : List Rq) (S : Nat → Prop) (to h now : Int) (i : Nat) (r : Rq) (w : World) (hF : Flight w fb N l S) (ht : 0 ≤ to ∧ to < N ∧ N ≤ 16) (hh : 1 ≤ h ∧ h ≤ 1073741824) (hn : 0 ≤ now ∧ now ≤ 1099511627776)
    (hr : l[i]? = some r) (hr1 : r.op = true) (hr2 : r.to = to) (hr3 : r.h = h) :
    CallsV Try.prog 8 #[.pointer (some ⟨fb, 0, none⟩), .int .i64 to, .int .i64 h, .int .i64 now] w fun v w' => v = .tuple #[.int .i64 ((i : Int) + 1), .bool false, .int .i64 0] ∧ w' = w := by
  obtain ⟨⟨mb, lv, F, hfl, hm, hok, s1, s2, s3⟩, hlt⟩ := hF
  have c0 : w.cell? ⟨fb, 0, none⟩ = some (.int .i64 N) := hfl.blk.cell 0
  have c2 : w.cell? ⟨fb, 2, none⟩ = some (.map (some mb)) := hfl.blk.cell 2
  have hnn := none_any fb (some mb) w c2
  obtain ⟨kl, hkey⟩ := spot_key (a := to) (b := h) (WalkArith.wf_i64 (by omega)) (WalkArith.wf_i64 (by omega))
  have hFs : F (spot to h) = some (.int .i64 ((i : Int) + 1)) := (hok to h _).2 ⟨i, r, hr, hr1, hr2, hr3, rfl⟩
  have hlook := hm.look key53 Try.underlying47 (zero3 w) hkey
  rw [hFs] at hlook
  simp only [spot] at hlook
  refine calls_at body8 Try.func8 rfl 92 rfl (by simp) fun s hs hds => ?_
  have h0 := hs 0 _ rfl
  have h1 := hs 1 _ rfl
  have h2 := hs 2 _ rfl
  have h3 := hs 3 _ rfl
  clear hs
  refine at_seq rfl fun K1 hK1 => ?_
  (conv => arg 4; whnf)
  refine fw_region_lit rfl ?_
  simp [go_sem, opsF, opF, upF, Region.wanted, Fr.ev, Fr.put, thenE, inBlockE, Oper.semAt, yieldF, h0, h1, h2, h3]
  refine on_kf hK1 [(0, .pointer (some ⟨fb, 0, none⟩)), (1, .int .i64 to), (2, .int .i64 h), (3, .int .i64 now)] (by simp [h0, h1, h2, h3]) hds ?_
  clear hK1 h0 h1 h2 h3 hds; intro s hs hds
  obtain ⟨h0, h1, h2, h3⟩ := facts4 hs; clear hs
  refine at_seq rfl fun K2 hK2 => ?_
  refine at_block 0 rfl ?_
  refine at_seq rfl fun K3 hK3 => ?_
  (conv => arg 4; whnf)
  refine fw_region_lit rfl ?_
  simp [go_sem, opsF, opF, upF, Region.wanted, Fr.ev, Fr.put, thenE, inBlockE, Oper.semAt, yieldF, h0, h1, h2, h3]
  refine hnn.on ?_
  rintro v w' ⟨rfl, rfl⟩
  clear hnn
  refine on_kf hK3 [(0, .pointer (some ⟨fb, 0, none⟩)), (1, .int .i64 to), (2, .int .i64 h), (3, .int .i64 now), (14, .bool false)] (by simp [h0, h1, h2, h3]) hds ?_
  clear hK3 h0 h1 h2 h3 hds; intro s hs hds
  obtain ⟨h0, h1, h2, h3, h14⟩ := facts5 hs; clear hs
  refine at_false 14 rfl h14 ?_
  have d1 : ¬ to < 0 := by omega
  have d2 : ¬ N ≤ to := by omega
  have d3 : ¬ h < 1 := by omega
  have d4 : ¬ 1073741824 < h := by omega
  have d5 : ¬ now < 0 := by omega
  have d6 : ¬ 1099511627776 < now := by omega
  refine at_seq rfl fun K4 hK4 => ?_
  (conv => arg 4; whnf)
  refine fw_region_lit rfl ?_
  simp [go_sem, opsF, opF, upF, Region.wanted, Fr.ev, Fr.put, thenE, inBlockE, Oper.semAt, yieldF, h0, h1, h2, h3, h14, c0, d1, d2, d3, d4, d5, d6]
  refine on_kf hK4 [(0, .pointer (some ⟨fb, 0, none⟩)), (1, .int .i64 to), (2, .int .i64 h), (3, .int .i64 now), (17, .bool false)] (by simp [h0, h1, h2, h3, h14]) hds ?_
  clear hK4 h0 h1 h2 h3 h14 hds; intro s hs hds
  obtain ⟨h0, h1, h2, h3, h17⟩ := facts5 hs; clear hs
  refine at_false 17 rfl h17 ?_
  refine at_skip rfl ?_
  simp only [inBlockE, thenE]
  refine on_kf hK2 [(0, .pointer (some ⟨fb, 0, none⟩)), (1, .int .i64 to), (2, .int .i64 h), (3, .int .i64 now)] (by simp [h0, h1, h2, h3, h17]) hds ?_
  clear hK2 h0 h1 h2 h3 h17 hds; intro s hs hds
  obtain ⟨h0, h1, h2, h3⟩ := facts4 hs; clear hs
  refine at_seq rfl fun K5 hK5 => ?_
  refine at_seq rfl fun K6 hK6 => ?_
  (conv => arg 4; whnf)
  refine fw_region_lit rfl ?_
  simp [go_sem, opsF, opF, upF, Region.wanted, Fr.ev, Fr.put, thenE, inBlockE, Oper.semAt, yieldF, h0, h1, h2, h3, c2, hlook]
  refine on_kf hK6 [(0, .pointer (some ⟨fb, 0, none⟩)), (1, .int .i64 to), (2, .int .i64 h), (3, .int .i64 now), (11, .int .i64 ((i : Int) + 1)), (12, .bool true)] (by simp [h0, h1, h2, h3]) hds ?_
  clear hK6 h0 h1 h2 h3 hds; intro s hs hds
  obtain ⟨h0, h1, h2, h3, h11, h12⟩ := facts6 hs; clear hs
  refine at_seq rfl fun K7 hK7 => ?_
  (conv => arg 4; whnf)
  refine fw_region_lit rfl ?_
  simp [go_sem, opsF, opF, upF, Region.wanted, Fr.ev, Fr.put, thenE, inBlockE, Oper.semAt, yieldF, h0, h1, h2, h3, h11, h12]
  refine on_kf hK7 [(0, .pointer (some ⟨fb, 0, none⟩)), (1, .int .i64 to), (2, .int .i64 h), (3, .int .i64 now), (11, .int .i64 ((i : Int) + 1)), (12, .bool true), (55, .bool true)] (by simp [h0, h1, h2, h3, h11, h12]) hds ?_
  clear hK7 h0 h1 h2 h3 h11 h12 hds; intro s hs hds
  obtain ⟨h0, h1, h2, h3, h11, h12, h55⟩ := facts7 hs; clear hs
  refine at_true 55 rfl h55 ?_
  refine at_seq rfl fun K8 hK8 => ?_
  (conv => arg 4; whnf)
  refine fw_region_lit rfl ?_
  simp [go_sem, opsF, opF, upF, Region.wanted, Fr.ev, Fr.put, thenE, inBlockE, Oper.semAt, yieldF, h0, h1, h2, h3, h11, h12, h55]
  refine on_kf hK8 [(0, .pointer (some ⟨fb, 0, none⟩)), (1, .int .i64 to), (2, .int .i64 h), (3, .int .i64 now), (8, .int .i64 ((i : Int) + 1)), (9, .bool false), (10, .int .i64 0), (11, .int .i64 ((i : Int) + 1)), (12, .bool true), (55, .bool true)] (by simp [h0, h1, h2, h3, h11, h12, h55]) hds ?_
  clear hK8 h0 h1 h2 h3 h11 h12 h55 hds; intro s hs hds
  obtain ⟨h0, h1, h2, h3, h8, h9, h10, h11, h12, h55⟩ := facts10 hs; clear hs
  refine at_ret rfl ?_
  simp only [inBlockE, thenE]
  refine ret_three rfl hds ?_
  rw [h8, h9, h10]
  exact ⟨rfl, rfl⟩

noncomputable def body9 : Code := Try.f9.body.getD .skip

theorem close_no (fb : Nat) (N : Int) (l : List Rq) (S : Nat → Prop) (nr : Int) (w : World) (hF : Flight w fb N l S) (hid : nr < 1 ∨ (l.length : Int) < nr) :
    CallsV Try.prog 9 #[.pointer (some ⟨fb, 0, none⟩), .int .i64 nr] w fun v w' => v = .int .i64 10 ∧ w' = w := by
  obtain ⟨⟨mb, lv, F, hfl, hm, hok, s1, s2, s3⟩, hlt⟩ := hF
  have c2 : w.cell? ⟨fb, 2, none⟩ = some (.map (some mb)) := hfl.blk.cell 2
  have hnn := none_any fb (some mb) w c2
  have hat := at_no fb mb N lv l nr w hfl hid
  clear hid
  refine calls_at body9 Try.func9 rfl 36 rfl (by simp) fun s hs hds => ?_
  have h0 := hs 0 _ rfl
  have h1 := hs 1 _ rfl
  clear hs
  refine at_seq rfl fun K9 hK9 => ?_
  (conv => arg 4; whnf)
  refine fw_region_lit rfl ?_
  simp [go_sem, opsF, opF, upF, Region.wanted, Fr.ev, Fr.put, thenE, inBlockE, Oper.semAt, yieldF, h0, h1]
  refine on_kf hK9 [(0, .pointer (some ⟨fb, 0, none⟩)), (1, .int .i64 nr)] (by simp [h0, h1]) hds ?_
  clear hK9 h0 h1 hds; intro s hs hds
  obtain ⟨h0, h1⟩ := facts2 hs; clear hs
  refine at_seq rfl fun K10 hK10 => ?_
  refine at_seq rfl fun K11 hK11 => ?_
  (conv => arg 4; whnf)
  refine fw_region_lit rfl ?_
  simp [go_sem, opsF, opF, upF, Region.wanted, Fr.ev, Fr.put, thenE, inBlockE, Oper.semAt, yieldF, h0, h1]
  refine hnn.on ?_
  rintro v w' ⟨rfl, rfl⟩
  clear hnn
  refine on_kf hK11 [(0, .pointer (some ⟨fb, 0, none⟩)), (1, .int .i64 nr), (7, .bool false)] (by simp [h0, h1]) hds ?_
  clear hK11 h0 h1 hds; intro s hs hds
  obtain ⟨h0, h1, h7⟩ := facts3 hs; clear hs
  refine at_false 7 rfl h7 ?_
  refine at_skip rfl ?_
  simp only [inBlockE, thenE]
  refine on_kf hK10 [(0, .pointer (some ⟨fb, 0, none⟩)), (1, .int .i64 nr)] (by simp [h0, h1, h7]) hds ?_
  clear hK10 h0 h1 h7 hds; intro s hs hds
  obtain ⟨h0, h1⟩ := facts2 hs; clear hs
  refine at_seq rfl fun K12 hK12 => ?_
  (conv => arg 4; whnf)
  refine fw_region_lit rfl ?_
  simp [go_sem, opsF, opF, upF, Region.wanted, Fr.ev, Fr.put, thenE, inBlockE, Oper.semAt, yieldF, h0, h1]
  refine hat.on ?_
  rintro v w' ⟨rfl, rfl⟩
  clear hat
  refine on_kf hK12 [(0, .pointer (some ⟨fb, 0, none⟩)), (1, .int .i64 nr), (5, .pointer none)] (by simp [h0, h1]) hds ?_
  clear hK12 h0 h1 hds; intro s hs hds
  obtain ⟨h0, h1, h5⟩ := facts3 hs; clear hs
  refine at_seq rfl fun K13 hK13 => ?_
  refine at_block 0 rfl ?_
  refine at_seq rfl fun K14 hK14 => ?_
  (conv => arg 4; whnf)
  refine fw_region_lit rfl ?_
  simp [go_sem, opsF, opF, upF, Region.wanted, Fr.ev, Fr.put, thenE, inBlockE, Oper.semAt, yieldF, h0, h1, h5]
  refine on_kf hK14 [(0, .pointer (some ⟨fb, 0, none⟩)), (1, .int .i64 nr), (5, .pointer none), (11, .bool true)] (by simp [h0, h1, h5]) hds ?_
  clear hK14 h0 h1 h5 hds; intro s hs hds
  obtain ⟨h0, h1, h5, h11⟩ := facts4 hs; clear hs
  refine at_true 11 rfl h11 ?_
  refine at_seq rfl fun K15 hK15 => ?_
  (conv => arg 4; whnf)
  refine fw_region_lit rfl ?_
  simp [go_sem, opsF, opF, upF, Region.wanted, Fr.ev, Fr.put, thenE, inBlockE, Oper.semAt, yieldF, h0, h1, h5, h11]
  refine on_kf hK15 [(0, .pointer (some ⟨fb, 0, none⟩)), (1, .int .i64 nr), (4, .int .i64 10), (5, .pointer none), (11, .bool true)] (by simp [h0, h1, h5, h11]) hds ?_
  clear hK15 h0 h1 h5 h11 hds; intro s hs hds
  obtain ⟨h0, h1, h4, h5, h11⟩ := facts5 hs; clear hs
  refine at_ret rfl ?_
  simp only [inBlockE, thenE]
  refine ret_one rfl hds ?_
  rw [h4]
  exact ⟨rfl, rfl⟩

theorem close_late (fb : Nat) (N : Int) (l : List Rq) (S : Nat → Prop) (nr : Int) (i : Nat) (r : Rq) (w : World) (hF : Flight w fb N l S) (hid : nr = (i : Int) + 1) (hr : l[i]? = some r) (hop : r.op = false) :
    CallsV Try.prog 9 #[.pointer (some ⟨fb, 0, none⟩), .int .i64 nr] w fun v w' => v = .int .i64 11 ∧ w' = w := by
  obtain ⟨⟨mb, lv, F, hfl, hm, hok, s1, s2, s3⟩, hlt⟩ := hF
  have c2 : w.cell? ⟨fb, 2, none⟩ = some (.map (some mb)) := hfl.blk.cell 2
  have hnn := none_any fb (some mb) w c2
  have hi : i < l.length := (List.getElem?_eq_some_iff.1 hr).1
  obtain ⟨g, cap, rfl⟩ := hfl.notnil (by omega)
  have hat := at_yes fb mb N g cap l nr i w hfl hid hi
  obtain ⟨_, _, _, _, e4⟩ := hfl.cells hr
  rw [hop] at e4
  clear hid hr hop
  refine calls_at body9 Try.func9 rfl 36 rfl (by simp) fun s hs hds => ?_
  have h0 := hs 0 _ rfl
  have h1 := hs 1 _ rfl
  clear hs
  refine at_seq rfl fun K16 hK16 => ?_
  (conv => arg 4; whnf)
  refine fw_region_lit rfl ?_
  simp [go_sem, opsF, opF, upF, Region.wanted, Fr.ev, Fr.put, thenE, inBlockE, Oper.semAt, yieldF, h0, h1]
  refine on_kf hK16 [(0, .pointer (some ⟨fb, 0, none⟩)), (1, .int .i64 nr)] (by simp [h0, h1]) hds ?_
  clear hK16 h0 h1 hds; intro s hs hds
  obtain ⟨h0, h1⟩ := facts2 hs; clear hs
  refine at_seq rfl fun K17 hK17 => ?_
  refine at_seq rfl fun K18 hK18 => ?_
  (conv => arg 4; whnf)
  refine fw_region_lit rfl ?_
  simp [go_sem, opsF, opF, upF, Region.wanted, Fr.ev, Fr.put, thenE, inBlockE, Oper.semAt, yieldF, h0, h1]
  refine hnn.on ?_
  rintro v w' ⟨rfl, rfl⟩
  clear hnn
  refine on_kf hK18 [(0, .pointer (some ⟨fb, 0, none⟩)), (1, .int .i64 nr), (7, .bool false)] (by simp [h0, h1]) hds ?_
  clear hK18 h0 h1 hds; intro s hs hds
  obtain ⟨h0, h1, h7⟩ := facts3 hs; clear hs
  refine at_false 7 rfl h7 ?_
  refine at_skip rfl ?_
  simp only [inBlockE, thenE]
  refine on_kf hK17 [(0, .pointer (some ⟨fb, 0, none⟩)), (1, .int .i64 nr)] (by simp [h0, h1, h7]) hds ?_
  clear hK17 h0 h1 h7 hds; intro s hs hds
  obtain ⟨h0, h1⟩ := facts2 hs; clear hs
  refine at_seq rfl fun K19 hK19 => ?_
  (conv => arg 4; whnf)
  refine fw_region_lit rfl ?_
  simp [go_sem, opsF, opF, upF, Region.wanted, Fr.ev, Fr.put, thenE, inBlockE, Oper.semAt, yieldF, h0, h1]
  refine hat.on ?_
  rintro v w' ⟨rfl, rfl⟩
  clear hat
  refine on_kf hK19 [(0, .pointer (some ⟨fb, 0, none⟩)), (1, .int .i64 nr), (5, .pointer (some ⟨g, i * 5, none⟩))] (by simp [h0, h1]) hds ?_
  clear hK19 h0 h1 hds; intro s hs hds
  obtain ⟨h0, h1, h5⟩ := facts3 hs; clear hs
  refine at_seq rfl fun K20 hK20 => ?_
  refine at_block 0 rfl ?_
  refine at_seq rfl fun K21 hK21 => ?_
  (conv => arg 4; whnf)
  refine fw_region_lit rfl ?_
  simp [go_sem, opsF, opF, upF, Region.wanted, Fr.ev, Fr.put, thenE, inBlockE, Oper.semAt, yieldF, h0, h1, h5]
  refine on_kf hK21 [(0, .pointer (some ⟨fb, 0, none⟩)), (1, .int .i64 nr), (5, .pointer (some ⟨g, i * 5, none⟩)), (11, .bool false)] (by simp [h0, h1, h5]) hds ?_
  clear hK21 h0 h1 h5 hds; intro s hs hds
  obtain ⟨h0, h1, h5, h11⟩ := facts4 hs; clear hs
  refine at_false 11 rfl h11 ?_
  refine at_seq rfl fun K22 hK22 => ?_
  (conv => arg 4; whnf)
  refine fw_region_lit rfl ?_
  simp [go_sem, opsF, opF, upF, Region.wanted, Fr.ev, Fr.put, thenE, inBlockE, Oper.semAt, yieldF, h0, h1, h5, h11, e4]
  refine on_kf hK22 [(0, .pointer (some ⟨fb, 0, none⟩)), (1, .int .i64 nr), (5, .pointer (some ⟨g, i * 5, none⟩)), (11, .bool false), (14, .bool true)] (by simp [h0, h1, h5, h11]) hds ?_
  clear hK22 h0 h1 h5 h11 hds; intro s hs hds
  obtain ⟨h0, h1, h5, h11, h14⟩ := facts5 hs; clear hs
  refine at_true 14 rfl h14 ?_
  refine at_seq rfl fun K23 hK23 => ?_
  (conv => arg 4; whnf)
  refine fw_region_lit rfl ?_
  simp [go_sem, opsF, opF, upF, Region.wanted, Fr.ev, Fr.put, thenE, inBlockE, Oper.semAt, yieldF, h0, h1, h5, h11, h14]
  refine on_kf hK23 [(0, .pointer (some ⟨fb, 0, none⟩)), (1, .int .i64 nr), (4, .int .i64 11), (5, .pointer (some ⟨g, i * 5, none⟩)), (11, .bool false), (14, .bool true)] (by simp [h0, h1, h5, h11, h14]) hds ?_
  clear hK23 h0 h1 h5 h11 h14 hds; intro s hs hds
  obtain ⟨h0, h1, h4, h5, h11, h14⟩ := facts6 hs; clear hs
  refine at_ret rfl ?_
  simp only [inBlockE, thenE]
  refine ret_one rfl hds ?_
  rw [h4]
  exact ⟨rfl, rfl⟩

theorem close_yes (fb : Nat) (N : Int) (l : List Rq) (S : Nat → Prop) (nr : Int) (i : Nat) (r : Rq) (w : World) (hF : Flight w fb N l S) (hid : nr = (i : Int) + 1) (hr : l[i]? = some r) (hop : r.op = true) (hids : ∀ (i : Nat) (r : Rq), l[i]? = some r → -9223372036854775808 ≤ r.to ∧ r.to ≤ 9223372036854775807 ∧ -9223372036854775808 ≤ r.h ∧ r.h ≤ 9223372036854775807)
    (huniq : ∀ (i j : Nat) (a b : Rq), l[i]? = some a → l[j]? = some b → a.op = true → b.op = true → a.to = b.to → a.h = b.h → i = j) :
    CallsV Try.prog 9 #[.pointer (some ⟨fb, 0, none⟩), .int .i64 nr] w fun v w' => v = .int .i64 0 ∧ Flight w' fb N (l.set i { r with op := false }) S ∧ Frm S w w' := by
  obtain ⟨⟨mb, lv, F, hfl, hm, hok, s1, s2, s3⟩, hlt⟩ := hF
  have c2 : w.cell? ⟨fb, 2, none⟩ = some (.map (some mb)) := hfl.blk.cell 2
  have hnn := none_any fb (some mb) w c2
  have hi : i < l.length := (List.getElem?_eq_some_iff.1 hr).1
  obtain ⟨g, cap, rfl⟩ := hfl.notnil (by omega)
  have hat := at_yes fb mb N g cap l nr i w hfl hid hi
  obtain ⟨_, e1, e2, _, e4⟩ := hfl.cells hr
  rw [hop] at e4
  have hg : g ≠ fb ∧ g ≠ mb := by
    obtain ⟨cur, hcur⟩ := hfl.row.obj (g := g) rfl
    have hb : w.heap[fb]? = _ := hfl.blk
    obtain ⟨es, ck, hmb, _⟩ := hm
    constructor <;> intro e <;> subst e
    · rw [hcur] at hb; cases hb
    · rw [hcur] at hmb; cases hmb
  have hmf : mb ≠ fb := by
    intro e
    subst e
    have hb : w.heap[mb]? = _ := hfl.blk
    obtain ⟨es, ck, hmb, _⟩ := hm
    rw [hmb] at hb; cases hb
  have hfz : w.frozen? ⟨g, i * 5 + 4, none⟩ = false := hfl.row.frozen _
  clear hid
  refine calls_at body9 Try.func9 rfl 36 rfl (by simp) fun s hs hds => ?_
  have h0 := hs 0 _ rfl
  have h1 := hs 1 _ rfl
  clear hs
  refine at_seq rfl fun K24 hK24 => ?_
  (conv => arg 4; whnf)
  refine fw_region_lit rfl ?_
  simp [go_sem, opsF, opF, upF, Region.wanted, Fr.ev, Fr.put, thenE, inBlockE, Oper.semAt, yieldF, h0, h1]
  refine on_kf hK24 [(0, .pointer (some ⟨fb, 0, none⟩)), (1, .int .i64 nr)] (by simp [h0, h1]) hds ?_
  clear hK24 h0 h1 hds; intro s hs hds
  obtain ⟨h0, h1⟩ := facts2 hs; clear hs
  refine at_seq rfl fun K25 hK25 => ?_
  refine at_seq rfl fun K26 hK26 => ?_
  (conv => arg 4; whnf)
  refine fw_region_lit rfl ?_
  simp [go_sem, opsF, opF, upF, Region.wanted, Fr.ev, Fr.put, thenE, inBlockE, Oper.semAt, yieldF, h0, h1]
  refine hnn.on ?_
  rintro v w' ⟨rfl, rfl⟩
  clear hnn
  refine on_kf hK26 [(0, .pointer (some ⟨fb, 0, none⟩)), (1, .int .i64 nr), (7, .bool false)] (by simp [h0, h1]) hds ?_
  clear hK26 h0 h1 hds; intro s hs hds
  obtain ⟨h0, h1, h7⟩ := facts3 hs; clear hs
  refine at_false 7 rfl h7 ?_
  refine at_skip rfl ?_
  simp only [inBlockE, thenE]
  refine on_kf hK25 [(0, .pointer (some ⟨fb, 0, none⟩)), (1, .int .i64 nr)] (by simp [h0, h1, h7]) hds ?_
  clear hK25 h0 h1 h7 hds; intro s hs hds
  obtain ⟨h0, h1⟩ := facts2 hs; clear hs
  refine at_seq rfl fun K27 hK27 => ?_
  (conv => arg 4; whnf)
  refine fw_region_lit rfl ?_
  simp [go_sem, opsF, opF, upF, Region.wanted, Fr.ev, Fr.put, thenE, inBlockE, Oper.semAt, yieldF, h0, h1]
  refine hat.on ?_
  rintro v w' ⟨rfl, rfl⟩
  clear hat
  refine on_kf hK27 [(0, .pointer (some ⟨fb, 0, none⟩)), (1, .int .i64 nr), (5, .pointer (some ⟨g, i * 5, none⟩))] (by simp [h0, h1]) hds ?_
  clear hK27 h0 h1 hds; intro s hs hds
  obtain ⟨h0, h1, h5⟩ := facts3 hs; clear hs
  refine at_seq rfl fun K28 hK28 => ?_
  refine at_block 0 rfl ?_
  refine at_seq rfl fun K29 hK29 => ?_
  (conv => arg 4; whnf)
  refine fw_region_lit rfl ?_
  simp [go_sem, opsF, opF, upF, Region.wanted, Fr.ev, Fr.put, thenE, inBlockE, Oper.semAt, yieldF, h0, h1, h5]
  refine on_kf hK29 [(0, .pointer (some ⟨fb, 0, none⟩)), (1, .int .i64 nr), (5, .pointer (some ⟨g, i * 5, none⟩)), (11, .bool false)] (by simp [h0, h1, h5]) hds ?_
  clear hK29 h0 h1 h5 hds; intro s hs hds
  obtain ⟨h0, h1, h5, h11⟩ := facts4 hs; clear hs
  refine at_false 11 rfl h11 ?_
  refine at_seq rfl fun K30 hK30 => ?_
  (conv => arg 4; whnf)
  refine fw_region_lit rfl ?_
  simp [go_sem, opsF, opF, upF, Region.wanted, Fr.ev, Fr.put, thenE, inBlockE, Oper.semAt, yieldF, h0, h1, h5, h11, e4]
  refine on_kf hK30 [(0, .pointer (some ⟨fb, 0, none⟩)), (1, .int .i64 nr), (5, .pointer (some ⟨g, i * 5, none⟩)), (11, .bool false), (14, .bool false)] (by simp [h0, h1, h5, h11]) hds ?_
  clear hK30 h0 h1 h5 h11 hds; intro s hs hds
  obtain ⟨h0, h1, h5, h11, h14⟩ := facts5 hs; clear hs
  refine at_false 14 rfl h14 ?_
  refine at_skip rfl ?_
  simp only [inBlockE, thenE]
  refine on_kf hK28 [(0, .pointer (some ⟨fb, 0, none⟩)), (1, .int .i64 nr), (5, .pointer (some ⟨g, i * 5, none⟩))] (by simp [h0, h1, h5, h11, h14]) hds ?_
  clear hK28 h0 h1 h5 h11 h14 hds; intro s hs hds
  obtain ⟨h0, h1, h5⟩ := facts3 hs; clear hs
  refine at_seq rfl fun K31 hK31 => ?_
  (conv => arg 4; whnf)
  refine fw_region_lit rfl ?_
  simp [go_sem, opsF, opF, upF, Region.wanted, Fr.ev, Fr.put, thenE, inBlockE, Oper.semAt, yieldF, h0, h1, h5, e4, hfz]
  refine on_kf hK31 [(0, .pointer (some ⟨fb, 0, none⟩)), (1, .int .i64 nr), (5, .pointer (some ⟨g, i * 5, none⟩))] (by simp [h0, h1, h5]) hds ?_
  clear hK31 h0 h1 h5 hds; intro s hs hds
  obtain ⟨h0, h1, h5⟩ := facts3 hs; clear hs
  obtain ⟨hb1, hb2, hb3, hb4⟩ := hids i r hr
  obtain ⟨kl, hkey⟩ := spot_key (a := r.to) (b := r.h) (WalkArith.wf_i64 (by omega)) (WalkArith.wf_i64 (by omega))
  have hrow0 := hfl.row.set (i * 5 + 4) (.bool false)
  have hcs : (cellsOf l).set (i * 5 + 4) (.bool false) = cellsOf (l.set i { r with op := false }) := flat_set Rq.enc 5 Rq.enc_len l i 4 _ r hr (by decide) _ rfl
  rw [hcs] at hrow0
  have hset := Frm.setCell (S := fun k => k = g) w ⟨g, i * 5 + 4, none⟩ (.bool false) rfl
  have hblk0 := hfl.blk.frm hset (fun e => hg.1 e.symm)
  have hm0 := hm.frm hset (fun e => hg.2 e.symm)
  generalize hw0 : w.setCell ⟨g, i * 5 + 4, none⟩ (.bool false) = w0 at *
  refine at_seq rfl fun K32 hK32 => ?_
  (conv => arg 4; whnf)
  refine draw_tail 13 mixed (by kernel_rfl) rfl fun w1 hw1 hn1 => ?_
  have q2 : w1.cell? ⟨fb, 2, none⟩ = some (.map (some mb)) := by rw [cell_heap hw1]; exact hblk0.cell 2
  have q3 : w1.cell? ⟨g, i * 5 + 1, none⟩ = some (.int .i64 r.to) := by rw [cell_heap hw1, ← hw0, World.cell?_setCell_other _ _ _ _ (by simp)]; exact e1
  have q4 : w1.cell? ⟨g, i * 5 + 2, none⟩ = some (.int .i64 r.h) := by rw [cell_heap hw1, ← hw0, World.cell?_setCell_other _ _ _ _ (by simp)]; exact e2
  have hm1 := hm0.frm hn1 (fun h => h)
  obtain ⟨o, hdel, hm2⟩ := hm1.delete key53 Try.underlying47 hkey 53 0
  simp only [spot] at hdel
  simp [go_sem, stillsF, stillUpF, Region.wanted, Fr.ev, Fr.put, thenE, inBlockE, yieldF, h0, h1, h5, q2, q3, q4]
  refine opsP_delete rfl rfl rfl (v := .map (some mb)) (u := .agg #[.int .i64 r.to, .int .i64 r.h]) (by simp [Fr.ev]) (by simp [Fr.ev]) hdel ?_
  simp [go_sem, stillsF, stillUpF, Region.wanted, Fr.ev, Fr.put, thenE, inBlockE, yieldF, opsP, upP, h0, h1, h5]
  refine on_kf hK32 [(0, .pointer (some ⟨fb, 0, none⟩)), (1, .int .i64 nr), (5, .pointer (some ⟨g, i * 5, none⟩))] (by simp [h0, h1, h5]) hds ?_
  clear hK32 h0 h1 h5 hds; intro s hs hds
  obtain ⟨h0, h1, h5⟩ := facts3 hs; clear hs
  refine at_seq rfl fun K33 hK33 => ?_
  (conv => arg 4; whnf)
  refine fw_region_lit rfl ?_
  simp [go_sem, opsF, opF, upF, Region.wanted, Fr.ev, Fr.put, thenE, inBlockE, Oper.semAt, yieldF, h0, h1, h5]
  refine on_kf hK33 [(0, .pointer (some ⟨fb, 0, none⟩)), (1, .int .i64 nr), (4, .int .i64 0), (5, .pointer (some ⟨g, i * 5, none⟩))] (by simp [h0, h1, h5]) hds ?_
  clear hK33 h0 h1 h5 hds; intro s hs hds
  obtain ⟨h0, h1, h4, h5⟩ := facts4 hs; clear hs
  refine at_ret rfl ?_
  refine ret_one rfl hds ?_
  rw [h4]
  have hput := Frm.putObj (S := fun k => k = mb) w1 mb o rfl
  have hlen : (l.set i { r with op := false }).length = l.length := by simp
  refine ⟨rfl, ⟨⟨mb, .slice (some ⟨g, 0, none⟩) l.length cap, _, ⟨(hblk0.frm hn1 (fun h => h)).frm hput (fun e => hmf e.symm), ?_⟩, hm2, ?_, s1, s2, s3⟩, ?_⟩, ?_⟩
  · rw [hlen]
    exact (hrow0.frm hn1 (fun _ _ h => h)).frm hput (fun k hk => by cases hk; exact hg.2)
  · intro a b v
    dsimp only
    by_cases hab : spot a b = spot r.to r.h
    · rw [if_pos hab]
      obtain ⟨ea, eb⟩ := spot_inj hab
      constructor
      · intro h; cases h
      · rintro ⟨j, r', hr', h1, h2, h3, _⟩
        rw [List.getElem?_set] at hr'
        split at hr'
        · cases hr'; cases h1
        · rename_i hij
          exact absurd (huniq i j r r' hr hr' hop h1 (by rw [h2, ea]) (by rw [h3, eb])) hij
    · rw [if_neg hab, hok]
      constructor
      · rintro ⟨j, r', hr', h1, h2, h3, h4⟩
        refine ⟨j, r', ?_, h1, h2, h3, h4⟩
        rw [List.getElem?_set]
        by_cases hij : i = j
        · subst hij
          rw [hr] at hr'
          cases hr'
          exact absurd (by rw [← h2, ← h3]) hab
        · rw [if_neg hij]; exact hr'
      · rintro ⟨j, r', hr', h1, h2, h3, h4⟩
        refine ⟨j, r', ?_, h1, h2, h3, h4⟩
        rw [List.getElem?_set] at hr'
        split at hr'
        · cases hr'; cases h1
        · exact hr'
  · intro b hb
    rw [World.putObj_size]
    exact Nat.lt_of_lt_of_le (hlt b hb) (Nat.le_trans hset.size hn1.size)
  · exact ((hset.mono (S' := S) (fun i _ h => h ▸ s3 g rfl)).trans hn1 (fun _ _ h => h.elim)).trans hput (fun i _ h => h ▸ s2)
end Go.Proofs.Ytiejaopidkghdaa
