/- The law's look at all providers: the loop; a request's reading. -/
import Derived.Test.YtiejaopidkghdaaFq
namespace Go.Proofs.Ytiejaopidkghdaa
set_option linter.unusedSimpArgs false
set_option linter.unusedVariables false
open Go.RowKit Go.Lf

/-- What holds between two providers. -/
def WhI (w00 : World) (N : Int) (fb : Nat) (l : List Rq) (S : Nat → Prop) (ov rv : Value) (ys : List Value) (id : Int) (m k : Nat) (mm : Nat) (s : Fr) (w : World) : Prop :=
  ∃ who : Int, -1 ≤ who ∧ who ≤ N + 1 ∧ (mm : Int) = N + 1 - who ∧ FS N fb ov rv id m k s ∧ s.t 24 = .int .i64 who ∧ LW w00 fb N l S ov rv m ys w

set_option maxHeartbeats 1000000 in
theorem segWho (s : Fr) (w00 w : World) (K : Fr → World → Prop) (Q : Exit → Fr → World → Prop) (N : Int) (fb : Nat) (l : List Rq) (S : Nat → Prop) (ov rv : Value) (ys : List Value) (id : Int) (m k : Nat)
    (hs : FS N fb ov rv id m k s) (hL : LW w00 fb N l S ov rv m ys w) (hp : PI N l) (hll : l.length ≤ 200) (hN : 1 ≤ N ∧ N ≤ 16)
    (hK : ∀ s w', FS N fb ov rv id m k s → LW w00 fb N l S ov rv m ys w' → K s w') : FW Try.prog 303 none (sub body3 [0,1,1,1,1,1,0,0,1,1,0,0,1,0,1,1,1,1,1,1]) (thenE K Q) s w := by
  obtain ⟨h5, h6, h8, h15, h63, h64, h65, hds⟩ := hs
  refine at_seq rfl fun K1 hK1 => ?_
  (conv => arg 4; whnf)
  refine fw_region_lit rfl ?_
  simp [go_sem, opsF, opF, upF, Region.wanted, Fr.ev, Fr.put, thenE, inBlockE, Oper.semAt, yieldF, h5, h6, h8, h15, h63, h64, h65]
  refine on_kf hK1 [(5, .int .i64 N), (6, .pointer (some ⟨fb, 0, none⟩)), (8, ov), (15, .int .i64 id), (24, .int .i64 (-1)), (63, rv), (64, .int .i64 (m : Int)), (65, .int .i64 (k : Int))] (by simp [h5, h6, h8, h15, h63, h64, h65]) hds ?_
  clear hK1 h5 h6 h8 h15 h63 h64 h65 hds; intro s hs hds
  obtain ⟨h5, h6, h8, h15, h24, h63, h64, h65⟩ := facts8 hs; clear hs
  refine at_block 4 rfl ?_
  refine at_loop rfl (WhI w00 N fb l S ov rv ys id m k) (N + 2).toNat ⟨-1, by omega, by omega, by omega, ⟨h5, h6, h8, h15, h63, h64, h65, hds⟩, h24, hL⟩ ?_
  clear h5 h6 h8 h15 h63 h64 h65 h24 hds s hL w
  rintro mm s w ⟨who, hlo, hhi, hmm, ⟨h5, h6, h8, h15, h63, h64, h65, hds⟩, h24, hL⟩
  by_cases hlt : who ≤ N
  · refine at_seq rfl fun K2 hK2 => ?_
    refine at_seq rfl fun K3 hK3 => ?_
    (conv => arg 4; whnf)
    refine fw_region_lit rfl ?_
    simp [go_sem, opsF, opF, upF, Region.wanted, Fr.ev, Fr.put, thenE, inBlockE, Oper.semAt, yieldF, h5, h6, h8, h15, h24, h63, h64, h65, hlt]
    refine on_kf hK3 [(5, .int .i64 N), (6, .pointer (some ⟨fb, 0, none⟩)), (8, ov), (15, .int .i64 id), (24, .int .i64 who), (63, rv), (64, .int .i64 (m : Int)), (65, .int .i64 (k : Int)), (190, .bool true)] (by simp [h5, h6, h8, h15, h24, h63, h64, h65]) hds ?_
    clear hK3 h5 h6 h8 h15 h24 h63 h64 h65 hds; intro s hs hds
    obtain ⟨h5, h6, h8, h15, h24, h63, h64, h65, h190⟩ := facts9 hs; clear hs
    refine at_true 190 rfl h190 ?_
    refine at_skip rfl ?_
    simp only [inBlockE, thenE]
    refine on_kf hK2 [(5, .int .i64 N), (6, .pointer (some ⟨fb, 0, none⟩)), (8, ov), (15, .int .i64 id), (24, .int .i64 who), (63, rv), (64, .int .i64 (m : Int)), (65, .int .i64 (k : Int))] (by simp [h5, h6, h8, h15, h24, h63, h64, h65, h190]) hds ?_
    clear hK2 h5 h6 h8 h15 h24 h63 h64 h65 h190 hds; intro s hs hds
    obtain ⟨h5, h6, h8, h15, h24, h63, h64, h65⟩ := facts8 hs; clear hs
    refine at_seq rfl fun K4 hK4 => ?_
    refine at_block 5 rfl ?_
    refine at_seq rfl fun K5 hK5 => ?_
    (conv => arg 4; whnf)
    refine fw_region_lit rfl ?_
    simp [go_sem, opsF, opF, upF, Region.wanted, Fr.ev, Fr.put, thenE, inBlockE, Oper.semAt, yieldF, h5, h6, h8, h15, h24, h63, h64, h65]
    refine on_kf hK5 [(5, .int .i64 N), (6, .pointer (some ⟨fb, 0, none⟩)), (8, ov), (15, .int .i64 id), (24, .int .i64 who), (25, .slice none 0 0), (63, rv), (64, .int .i64 (m : Int)), (65, .int .i64 (k : Int))] (by simp [h5, h6, h8, h15, h24, h63, h64, h65]) hds ?_
    clear hK5 h5 h6 h8 h15 h24 h63 h64 h65 hds; intro s hs hds
    obtain ⟨h5, h6, h8, h15, h24, h25, h63, h64, h65⟩ := facts9 hs; clear hs
    refine at_seq rfl fun K6 hK6 => ?_
    (conv => arg 4; whnf)
    refine fw_region_lit rfl ?_
    simp [go_sem, opsF, opF, upF, Region.wanted, Fr.ev, Fr.put, thenE, inBlockE, Oper.semAt, yieldF, h5, h6, h8, h15, h24, h25, h63, h64, h65]
    refine on_kf hK6 [(5, .int .i64 N), (6, .pointer (some ⟨fb, 0, none⟩)), (8, ov), (15, .int .i64 id), (24, .int .i64 who), (25, .slice none 0 0), (26, .int .i64 0), (63, rv), (64, .int .i64 (m : Int)), (65, .int .i64 (k : Int))] (by simp [h5, h6, h8, h15, h24, h25, h63, h64, h65]) hds ?_
    clear hK6 h5 h6 h8 h15 h24 h25 h63 h64 h65 hds; intro s hs hds
    obtain ⟨h5, h6, h8, h15, h24, h25, h26, h63, h64, h65⟩ := facts10 hs; clear hs
    refine at_seq rfl fun K7 hK7 => ?_
    refine segInner s w00 w _ _ N fb l S ov rv ys id m k who ⟨h5, h6, h8, h15, h63, h64, h65, hds⟩ h24 h25 h26 hL hp hll ?_
    clear h5 h6 h8 h15 h63 h64 h65 h24 h25 h26 hds s
    intro s w1 pv hf h24 h25 h26 hw1 hrow
    refine hK7 _ _ ?_
    clear hK7
    refine seg55 s w00 w1 _ _ N fb l S ov rv ys id m k who pv hf h24 h25 h26 (hL.new hw1) hp hll hrow ?_
    clear hf h24 h25 h26 hrow s
    rintro s w2 ⟨h5, h6, h8, h15, h63, h64, h65, hds⟩ h24 hL2
    refine hK4 _ _ ?_
    clear hK4
    have d1 : IntKind.i64.wrap (who + 1) = who + 1 := IntWalk.i64_in _ (by omega)
    (conv => arg 4; whnf)
    refine fw_region_lit rfl ?_
    simp [go_sem, opsF, opF, upF, Region.wanted, Fr.ev, Fr.put, thenE, inBlockE, Oper.semAt, yieldF, h24, d1]
    refine ⟨(N + 1 - (who + 1)).toNat, by omega, who + 1, by omega, by omega, by omega, ⟨?_, ?_, ?_, ?_, ?_, ?_, ?_, ?_⟩, ?_, hL2⟩ <;> simp [h5, h6, h8, h15, h63, h64, h65, hds]
  · refine at_seq rfl fun K8 hK8 => ?_
    refine at_seq rfl fun K9 hK9 => ?_
    (conv => arg 4; whnf)
    refine fw_region_lit rfl ?_
    simp [go_sem, opsF, opF, upF, Region.wanted, Fr.ev, Fr.put, thenE, inBlockE, Oper.semAt, yieldF, h5, h6, h8, h15, h24, h63, h64, h65, hlt]
    refine on_kf hK9 [(5, .int .i64 N), (6, .pointer (some ⟨fb, 0, none⟩)), (8, ov), (15, .int .i64 id), (24, .int .i64 who), (63, rv), (64, .int .i64 (m : Int)), (65, .int .i64 (k : Int)), (190, .bool false)] (by simp [h5, h6, h8, h15, h24, h63, h64, h65]) hds ?_
    clear hK9 h5 h6 h8 h15 h24 h63 h64 h65 hds; intro s hs hds
    obtain ⟨h5, h6, h8, h15, h24, h63, h64, h65, h190⟩ := facts9 hs; clear hs
    refine at_false 190 rfl h190 ?_
    refine at_exit 4 rfl ?_
    simp only [inBlockE, thenE]
    exact hK s w ⟨h5, h6, h8, h15, h63, h64, h65, hds⟩ hL

set_option maxHeartbeats 1000000 in
theorem segGet (s : Fr) (w00 w : World) (K : Fr → World → Prop) (Q : Exit → Fr → World → Prop) (N : Int) (fb : Nat) (l : List Rq) (S : Nat → Prop) (ov rv : Value) (ys : List Value) (id : Int) (m k : Nat)
    (hs : FS N fb ov rv id m k s) (hL : LW w00 fb N l S ov rv m ys w) (hll : l.length ≤ 200) (hid : 0 ≤ id ∧ id ≤ 1000)
    (hK : ∀ s w', FS N fb ov rv id m k s → LW w00 fb N l S ov rv m ys w' → K s w') : FW Try.prog 303 none (sub body3 [1,1,1,1,1,1,0,0,1,1,0,0,1,0,1,1,1,1,1,1]) (inBlockE 1 (thenE K Q)) s w := by
  obtain ⟨h5, h6, h8, h15, h63, h64, h65, hds⟩ := hs
  obtain ⟨ad, cp, hov, had⟩ : ∃ ad cp, ov = .slice ad l.length cp ∧ (0 < l.length → ∃ g, ad = some ⟨g, 0, none⟩) := by
    rcases hL.own.val with ⟨h, h', _⟩ | ⟨g, cap, h, _⟩
    · exact ⟨none, 0, by rw [h, h'], fun h => by omega⟩
    · exact ⟨_, cap, h, fun _ => ⟨g, rfl⟩⟩
  subst hov
  obtain ⟨mb, lv, F, hfl, _⟩ := hL.fl.ex
  by_cases hbad : id < 1 ∨ (l.length : Int) < id
  · refine at_seq rfl fun K10 hK10 => ?_
    (conv => arg 4; whnf)
    refine fw_region_lit rfl ?_
    simp [go_sem, opsF, opF, upF, Region.wanted, Fr.ev, Fr.put, thenE, inBlockE, Oper.semAt, yieldF, h5, h6, h8, h15, h63, h64, h65]
    refine (get_no fb mb N lv l id w hfl hbad).on ?_
    rintro _ wA ⟨rfl, hwA⟩
    simp [go_sem, opsF, opF, upF, Region.wanted, Fr.ev, Fr.put, thenE, inBlockE, Oper.semAt, yieldF, h5, h6, h8, h15, h63, h64, h65]
    have hA := Frm.alloc (fun _ => False) wA (.cells #[.int .i64 0, .int .i64 0, .int .i64 0, .int .i64 0, .bool false] 31)
    have hbx := Blk.new wA #[.int .i64 0, .int .i64 0, .int .i64 0, .int .i64 0, .bool false] 31
    have hLA := (hL.new hwA).new hA
    refine on_kf hK10 [(5, .int .i64 N), (6, .pointer (some ⟨fb, 0, none⟩)), (8, .slice ad l.length cp), (15, .int .i64 id), (30, .pointer (some ⟨wA.heap.size, 0, none⟩)), (31, .bool false), (63, rv), (64, .int .i64 (m : Int)), (65, .int .i64 (k : Int))] (by simp [h5, h6, h8, h15, h63, h64, h65]) hds ?_
    clear hK10 h5 h6 h8 h15 h63 h64 h65 hds; intro s hs hds
    obtain ⟨h5, h6, h8, h15, h30, h31, h63, h64, h65⟩ := facts9 hs; clear hs
    generalize wA.heap.size = bx at *
    generalize wA.alloc (.cells #[.int .i64 0, .int .i64 0, .int .i64 0, .int .i64 0, .bool false] 31) = wB at *
    have x0 := hbx.cell 0
    have x1 := hbx.cell 1
    have x2 := hbx.cell 2
    have x3 := hbx.cell 3
    have x4 := hbx.cell 4
    simp only [List.getElem?_toArray, List.getElem?_cons_zero, List.getElem?_cons_succ] at x0 x1 x2 x3 x4
    have hcase : id < 1 ∨ (¬ id < 1 ∧ (l.length : Int) < id) := by omega
    rcases hcase with d1 | ⟨d1, d2⟩
    · have d1' : ¬ 1 ≤ id := by omega
      refine at_seq rfl fun K11 hK11 => ?_
      (conv => arg 4; whnf)
      refine fw_region_lit rfl ?_
      simp [go_sem, opsF, opF, upF, Region.wanted, Fr.ev, Fr.put, thenE, inBlockE, Oper.semAt, yieldF, h5, h6, h8, h15, h30, h31, h63, h64, h65, d1']
      refine on_kf hK11 [(5, .int .i64 N), (6, .pointer (some ⟨fb, 0, none⟩)), (8, .slice ad l.length cp), (15, .int .i64 id), (30, .pointer (some ⟨bx, 0, none⟩)), (31, .bool false), (32, .bool false), (63, rv), (64, .int .i64 (m : Int)), (65, .int .i64 (k : Int))] (by simp [h5, h6, h8, h15, h30, h31, h63, h64, h65]) hds ?_
      clear hK11 h5 h6 h8 h15 h30 h31 h63 h64 h65 hds; intro s hs hds
      obtain ⟨h5, h6, h8, h15, h30, h31, h32, h63, h64, h65⟩ := facts10 hs; clear hs
      refine at_seq rfl fun K12 hK12 => ?_
      (conv => arg 4; whnf)
      refine draw_still mixed (by kernel_rfl) rfl fun w1 hw1 hn1 => ?_
      rw [← cell_heap hw1] at x0 x1 x2 x3 x4
      simp [go_sem, stillsF, stillUpF, Region.wanted, Fr.ev, Fr.put, thenE, inBlockE, yieldF, h5, h6, h8, h15, h30, h31, h32, h63, h64, h65, x0, x1, x2, x3, x4]
      refine on_kf hK12 [(5, .int .i64 N), (6, .pointer (some ⟨fb, 0, none⟩)), (8, .slice ad l.length cp), (15, .int .i64 id), (30, .pointer (some ⟨bx, 0, none⟩)), (31, .bool false), (32, .bool false), (63, rv), (64, .int .i64 (m : Int)), (65, .int .i64 (k : Int)), (301, .bool false)] (by simp [h5, h6, h8, h15, h30, h31, h32, h63, h64, h65]) hds ?_
      clear hK12 h5 h6 h8 h15 h30 h31 h32 h63 h64 h65 hds; intro s hs hds
      obtain ⟨h5, h6, h8, h15, h30, h31, h32, h63, h64, h65, h301⟩ := facts11 hs; clear hs
      refine at_false 301 rfl h301 ?_
      refine at_skip rfl ?_
      exact hK s w1 ⟨h5, h6, h8, h15, h63, h64, h65, hds⟩ (hLA.new hn1)
    · have d1' : 1 ≤ id := by omega
      have d2' : ¬ id ≤ (l.length : Int) := by omega
      refine at_seq rfl fun K13 hK13 => ?_
      (conv => arg 4; whnf)
      refine fw_region_lit rfl ?_
      simp [go_sem, opsF, opF, upF, Region.wanted, Fr.ev, Fr.put, thenE, inBlockE, Oper.semAt, yieldF, h5, h6, h8, h15, h30, h31, h63, h64, h65, d1', d2']
      refine on_kf hK13 [(5, .int .i64 N), (6, .pointer (some ⟨fb, 0, none⟩)), (8, .slice ad l.length cp), (15, .int .i64 id), (30, .pointer (some ⟨bx, 0, none⟩)), (31, .bool false), (32, .bool false), (63, rv), (64, .int .i64 (m : Int)), (65, .int .i64 (k : Int))] (by simp [h5, h6, h8, h15, h30, h31, h63, h64, h65]) hds ?_
      clear hK13 h5 h6 h8 h15 h30 h31 h63 h64 h65 hds; intro s hs hds
      obtain ⟨h5, h6, h8, h15, h30, h31, h32, h63, h64, h65⟩ := facts10 hs; clear hs
      refine at_seq rfl fun K14 hK14 => ?_
      (conv => arg 4; whnf)
      refine draw_still mixed (by kernel_rfl) rfl fun w1 hw1 hn1 => ?_
      rw [← cell_heap hw1] at x0 x1 x2 x3 x4
      simp [go_sem, stillsF, stillUpF, Region.wanted, Fr.ev, Fr.put, thenE, inBlockE, yieldF, h5, h6, h8, h15, h30, h31, h32, h63, h64, h65, x0, x1, x2, x3, x4]
      refine on_kf hK14 [(5, .int .i64 N), (6, .pointer (some ⟨fb, 0, none⟩)), (8, .slice ad l.length cp), (15, .int .i64 id), (30, .pointer (some ⟨bx, 0, none⟩)), (31, .bool false), (32, .bool false), (63, rv), (64, .int .i64 (m : Int)), (65, .int .i64 (k : Int)), (301, .bool false)] (by simp [h5, h6, h8, h15, h30, h31, h32, h63, h64, h65]) hds ?_
      clear hK14 h5 h6 h8 h15 h30 h31 h32 h63 h64 h65 hds; intro s hs hds
      obtain ⟨h5, h6, h8, h15, h30, h31, h32, h63, h64, h65, h301⟩ := facts11 hs; clear hs
      refine at_false 301 rfl h301 ?_
      refine at_skip rfl ?_
      exact hK s w1 ⟨h5, h6, h8, h15, h63, h64, h65, hds⟩ (hLA.new hn1)
  · have d1' : 1 ≤ id := by omega
    have d2' : id ≤ (l.length : Int) := by omega
    obtain ⟨i, hi⟩ : ∃ i : Nat, id = (i : Int) + 1 := ⟨(id - 1).toNat, by omega⟩
    have hil : i < l.length := by omega
    obtain ⟨r, hri⟩ : ∃ r, l[i]? = some r := ⟨l[i], by simp [hil]⟩
    obtain ⟨g, rfl⟩ := had (by omega)
    have e9 : IntKind.i64.wrap (id - 1) = (i : Int) := by rw [IntWalk.i64_in _ (by omega)]; omega
    refine at_seq rfl fun K15 hK15 => ?_
    (conv => arg 4; whnf)
    refine fw_region_lit rfl ?_
    simp [go_sem, opsF, opF, upF, Region.wanted, Fr.ev, Fr.put, thenE, inBlockE, Oper.semAt, yieldF, h5, h6, h8, h15, h63, h64, h65]
    refine (get_yes fb mb N lv l id i r w hfl hi hri).on ?_
    rintro _ wA ⟨rfl, hwA⟩
    unfold Rq.agg
    simp [go_sem, opsF, opF, upF, Region.wanted, Fr.ev, Fr.put, thenE, inBlockE, Oper.semAt, yieldF, h5, h6, h8, h15, h63, h64, h65]
    have hA := Frm.alloc (fun _ => False) wA (.cells #[.int .i64 r.id, .int .i64 r.to, .int .i64 r.h, .int .i64 r.tm, .bool r.op] 31)
    have hbx := Blk.new wA #[.int .i64 r.id, .int .i64 r.to, .int .i64 r.h, .int .i64 r.tm, .bool r.op] 31
    have hLA := (hL.new hwA).new hA
    refine on_kf hK15 [(5, .int .i64 N), (6, .pointer (some ⟨fb, 0, none⟩)), (8, .slice (some ⟨g, 0, none⟩) l.length cp), (15, .int .i64 id), (30, .pointer (some ⟨wA.heap.size, 0, none⟩)), (31, .bool true), (63, rv), (64, .int .i64 (m : Int)), (65, .int .i64 (k : Int))] (by simp [h5, h6, h8, h15, h63, h64, h65]) hds ?_
    clear hK15 h5 h6 h8 h15 h63 h64 h65 hds; intro s hs hds
    obtain ⟨h5, h6, h8, h15, h30, h31, h63, h64, h65⟩ := facts9 hs; clear hs
    generalize wA.heap.size = bx at *
    generalize wA.alloc (.cells #[.int .i64 r.id, .int .i64 r.to, .int .i64 r.h, .int .i64 r.tm, .bool r.op] 31) = wB at *
    have x0 := hbx.cell 0
    have x1 := hbx.cell 1
    have x2 := hbx.cell 2
    have x3 := hbx.cell 3
    have x4 := hbx.cell 4
    simp only [List.getElem?_toArray, List.getElem?_cons_zero, List.getElem?_cons_succ] at x0 x1 x2 x3 x4
    have hr1 := hLA.own
    have e0 : wB.cell? ⟨g, i * 5, none⟩ = some (.int .i64 r.id) := hr1.cell (cellsOf_get l i 0 r hri (by decide))
    have e1 : wB.cell? ⟨g, i * 5 + 1, none⟩ = some (.int .i64 r.to) := hr1.cell (cellsOf_get l i 1 r hri (by decide))
    have e2 : wB.cell? ⟨g, i * 5 + 2, none⟩ = some (.int .i64 r.h) := hr1.cell (cellsOf_get l i 2 r hri (by decide))
    have e3 : wB.cell? ⟨g, i * 5 + 3, none⟩ = some (.int .i64 r.tm) := hr1.cell (cellsOf_get l i 3 r hri (by decide))
    have e4 : wB.cell? ⟨g, i * 5 + 4, none⟩ = some (.bool r.op) := hr1.cell (cellsOf_get l i 4 r hri (by decide))
    refine at_seq rfl fun K16 hK16 => ?_
    (conv => arg 4; whnf)
    refine fw_region_lit rfl ?_
    simp [go_sem, opsF, opF, upF, Region.wanted, Fr.ev, Fr.put, thenE, inBlockE, Oper.semAt, yieldF, h5, h6, h8, h15, h30, h31, h63, h64, h65, d1', d2']
    refine on_kf hK16 [(5, .int .i64 N), (6, .pointer (some ⟨fb, 0, none⟩)), (8, .slice (some ⟨g, 0, none⟩) l.length cp), (15, .int .i64 id), (30, .pointer (some ⟨bx, 0, none⟩)), (31, .bool true), (32, .bool true), (63, rv), (64, .int .i64 (m : Int)), (65, .int .i64 (k : Int))] (by simp [h5, h6, h8, h15, h30, h31, h63, h64, h65]) hds ?_
    clear hK16 h5 h6 h8 h15 h30 h31 h63 h64 h65 hds; intro s hs hds
    obtain ⟨h5, h6, h8, h15, h30, h31, h32, h63, h64, h65⟩ := facts10 hs; clear hs
    refine at_seq rfl fun K17 hK17 => ?_
    (conv => arg 4; whnf)
    refine draw_still mixed (by kernel_rfl) rfl fun w1 hw1 hn1 => ?_
    rw [← cell_heap hw1] at x0 x1 x2 x3 x4 e0 e1 e2 e3 e4
    simp [go_sem, stillsF, stillUpF, Region.wanted, Fr.ev, Fr.put, thenE, inBlockE, yieldF, h5, h6, h8, h15, h30, h31, h32, h63, h64, h65, x0, x1, x2, x3, x4, e0, e1, e2, e3, e4, e9, hil]
    refine on_kf hK17 [(5, .int .i64 N), (6, .pointer (some ⟨fb, 0, none⟩)), (8, .slice (some ⟨g, 0, none⟩) l.length cp), (15, .int .i64 id), (30, .pointer (some ⟨bx, 0, none⟩)), (31, .bool true), (32, .bool true), (63, rv), (64, .int .i64 (m : Int)), (65, .int .i64 (k : Int)), (301, .bool false)] (by simp [h5, h6, h8, h15, h30, h31, h32, h63, h64, h65]) hds ?_
    clear hK17 h5 h6 h8 h15 h30 h31 h32 h63 h64 h65 hds; intro s hs hds
    obtain ⟨h5, h6, h8, h15, h30, h31, h32, h63, h64, h65, h301⟩ := facts11 hs; clear hs
    refine at_false 301 rfl h301 ?_
    refine at_skip rfl ?_
    exact hK s w1 ⟨h5, h6, h8, h15, h63, h64, h65, hds⟩ (hLA.new hn1)
end Go.Proofs.Ytiejaopidkghdaa
