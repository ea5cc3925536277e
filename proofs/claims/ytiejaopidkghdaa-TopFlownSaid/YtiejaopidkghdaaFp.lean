/- The law's look at one provider. -/
import Derived.Test.YtiejaopidkghdaaFo
namespace Go.Proofs.Ytiejaopidkghdaa
set_option linter.unusedSimpArgs false
set_option linter.unusedVariables false
open Go.RowKit Go.Lf

/-- What holds between two requests. -/
def InI (w0 : World) (N : Int) (fb : Nat) (l : List Rq) (ov rv : Value) (id : Int) (m k : Nat) (who : Int) (mm : Nat) (s : Fr) (w : World) : Prop :=
  ∃ (i : Nat) (pv : Value), i ≤ l.length ∧ mm = l.length - i ∧ FI N fb ov rv id m k who pv (((l.take i).filter (askHas who)).length : Int) l.length i s ∧ New w0 w ∧
    Row w 3 1 pv ((l.take i).filter (askWaits who)).length (((l.take i).filter (askWaits who)).map fun r => .int .i64 r.id) ∧ ∀ g, pv.ownBlock = some g → w0.heap.size ≤ g

theorem filter_take_succ (p : Rq → Bool) (l : List Rq) (i : Nat) (r : Rq) (hr : l[i]? = some r) : (l.take (i + 1)).filter p = (l.take i).filter p ++ if p r then [r] else [] := by
  rw [List.take_add_one, hr, List.filter_append]
  simp [List.filter_cons]

set_option maxHeartbeats 1000000 in
theorem segInner (s : Fr) (w00 w : World) (K : Fr → World → Prop) (Q : Exit → Fr → World → Prop) (N : Int) (fb : Nat) (l : List Rq) (S : Nat → Prop) (ov rv : Value) (ys : List Value) (id : Int) (m k : Nat) (who : Int)
    (hs : FS N fb ov rv id m k s) (h24 : s.t 24 = .int .i64 who) (h25 : s.t 25 = .slice none 0 0) (h26 : s.t 26 = .int .i64 0) (hL : LW w00 fb N l S ov rv m ys w) (hp : PI N l) (hll : l.length ≤ 200)
    (hK : ∀ s w' pv, FS N fb ov rv id m k s → s.t 24 = .int .i64 who → s.t 25 = pv → s.t 26 = .int .i64 ((l.filter (askHas who)).length : Int) → New w w' → Row w' 3 1 pv (l.filter (askWaits who)).length ((l.filter (askWaits who)).map fun r => .int .i64 r.id) → K s w') :
    FW Try.prog 303 none (sub body3 [0,1,1,0,0,1,0,0,1,0,1,1,1,1,1,0,0,1,1,0,0,1,0,1,1,1,1,1,1]) (thenE K Q) s w := by
  obtain ⟨h5, h6, h8, h15, h63, h64, h65, hds⟩ := hs
  obtain ⟨ad, cp, hov, had⟩ : ∃ ad cp, ov = .slice ad l.length cp ∧ (0 < l.length → ∃ g, ad = some ⟨g, 0, none⟩) := by
    rcases hL.own.val with ⟨h, h', _⟩ | ⟨g, cap, h, _⟩
    · exact ⟨none, 0, by rw [h, h'], fun h => by omega⟩
    · exact ⟨_, cap, h, fun _ => ⟨g, rfl⟩⟩
  subst hov
  refine at_seq rfl fun K1 hK1 => ?_
  (conv => arg 4; whnf)
  refine fw_region_lit rfl ?_
  simp [go_sem, opsF, opF, upF, Region.wanted, Fr.ev, Fr.put, thenE, inBlockE, Oper.semAt, yieldF, h5, h6, h8, h15, h24, h25, h26, h63, h64, h65]
  refine on_kf hK1 [(5, .int .i64 N), (6, .pointer (some ⟨fb, 0, none⟩)), (8, .slice ad l.length cp), (15, .int .i64 id), (24, .int .i64 who), (25, .slice none 0 0), (26, .int .i64 0), (63, rv), (64, .int .i64 (m : Int)), (65, .int .i64 (k : Int)), (193, .slice ad l.length cp), (194, .int .i64 (l.length : Int)), (195, .int .i64 ((0 : Nat) : Int))] (by simp [h5, h6, h8, h15, h24, h25, h26, h63, h64, h65]) hds ?_
  clear hK1 h5 h6 h8 h15 h24 h25 h26 h63 h64 h65 hds; intro s hs hds
  obtain ⟨h5, h6, h8, h15, h24, h25, h26, h63, h64, h65, h193, h194, h195⟩ := facts13 hs; clear hs
  refine at_block 6 rfl ?_
  refine at_loop rfl (InI w N fb l (.slice ad l.length cp) rv id m k who) l.length ⟨0, .slice none 0 0, by omega, by omega, ⟨⟨h5, h6, h8, h15, h63, h64, h65, hds⟩, h24, h25, by simpa using h26, h193, h194, h195⟩, Frm.refl _ _, by simpa using World.ownsRow_nil _ _ _ _, fun g h => by cases h⟩ ?_
  clear h5 h6 h8 h15 h63 h64 h65 h24 h25 h26 h193 h194 h195 hds s
  rintro mm s w1 ⟨i, pv, hi, rfl, ⟨⟨h5, h6, h8, h15, h63, h64, h65, hds⟩, h24, h25, h26, h193, h194, h195⟩, hw, hrow, hown⟩
  have hL1 := hL.new hw
  generalize hcc : ((l.take i).filter (askHas who)).length = c at *
  have hc200 : c ≤ 200 := by
    rw [← hcc]
    exact Nat.le_trans (List.length_filter_le _ _) (Nat.le_trans (by rw [List.length_take]; omega) hll)
  by_cases hlt : i < l.length
  · have d0 : (i : Int) < (l.length : Int) := by omega
    refine at_seq rfl fun K2 hK2 => ?_
    (conv => arg 4; whnf)
    refine fw_region_lit rfl ?_
    simp [go_sem, opsF, opF, upF, Region.wanted, Fr.ev, Fr.put, thenE, inBlockE, Oper.semAt, yieldF, h5, h6, h8, h15, h24, h25, h26, h63, h64, h65, h193, h194, h195, d0]
    refine on_kf hK2 [(5, .int .i64 N), (6, .pointer (some ⟨fb, 0, none⟩)), (8, .slice ad l.length cp), (15, .int .i64 id), (24, .int .i64 who), (25, pv), (26, .int .i64 (c : Int)), (63, rv), (64, .int .i64 (m : Int)), (65, .int .i64 (k : Int)), (193, .slice ad l.length cp), (194, .int .i64 (l.length : Int)), (195, .int .i64 (i : Int)), (196, .bool true)] (by simp [h5, h6, h8, h15, h24, h25, h26, h63, h64, h65, h193, h194, h195]) hds ?_
    clear hK2 h5 h6 h8 h15 h24 h25 h26 h63 h64 h65 h193 h194 h195 hds; intro s hs hds
    obtain ⟨h5, h6, h8, h15, h24, h25, h26, h63, h64, h65, h193, h194, h195, h196⟩ := facts14 hs; clear hs
    refine at_seq rfl fun K3 hK3 => ?_
    refine at_true 196 rfl h196 ?_
    refine at_skip rfl ?_
    simp only [inBlockE, thenE]
    refine on_kf hK3 [(5, .int .i64 N), (6, .pointer (some ⟨fb, 0, none⟩)), (8, .slice ad l.length cp), (15, .int .i64 id), (24, .int .i64 who), (25, pv), (26, .int .i64 (c : Int)), (63, rv), (64, .int .i64 (m : Int)), (65, .int .i64 (k : Int)), (193, .slice ad l.length cp), (194, .int .i64 (l.length : Int)), (195, .int .i64 (i : Int))] (by simp [h5, h6, h8, h15, h24, h25, h26, h63, h64, h65, h193, h194, h195, h196]) hds ?_
    clear hK3 h5 h6 h8 h15 h24 h25 h26 h63 h64 h65 h193 h194 h195 h196 hds; intro s hs hds
    obtain ⟨h5, h6, h8, h15, h24, h25, h26, h63, h64, h65, h193, h194, h195⟩ := facts13 hs; clear hs
    refine at_seq rfl fun K4 hK4 => ?_
    refine at_block 7 rfl ?_
    refine at_seq rfl fun K5 hK5 => ?_
    obtain ⟨g, rfl⟩ := had (by omega)
    obtain ⟨r, hri⟩ : ∃ r, l[i]? = some r := ⟨l[i], by simp [hlt]⟩
    have hr1 := hL1.own
    have e0 : w1.cell? ⟨g, i * 5, none⟩ = some (.int .i64 r.id) := hr1.cell (cellsOf_get l i 0 r hri (by decide))
    have e1 : w1.cell? ⟨g, i * 5 + 1, none⟩ = some (.int .i64 r.to) := hr1.cell (cellsOf_get l i 1 r hri (by decide))
    have e2 : w1.cell? ⟨g, i * 5 + 2, none⟩ = some (.int .i64 r.h) := hr1.cell (cellsOf_get l i 2 r hri (by decide))
    have e3 : w1.cell? ⟨g, i * 5 + 3, none⟩ = some (.int .i64 r.tm) := hr1.cell (cellsOf_get l i 3 r hri (by decide))
    have e4 : w1.cell? ⟨g, i * 5 + 4, none⟩ = some (.bool r.op) := hr1.cell (cellsOf_get l i 4 r hri (by decide))
    (conv => arg 4; whnf)
    refine fw_region_lit rfl ?_
    simp [go_sem, opsF, opF, upF, Region.wanted, Fr.ev, Fr.put, thenE, inBlockE, Oper.semAt, yieldF, h5, h6, h8, h15, h24, h25, h26, h63, h64, h65, h193, h194, h195, hlt, e0, e1, e2, e3, e4]
    have hA := Frm.alloc (fun _ => False) w1 (.cells #[.int .i64 r.id, .int .i64 r.to, .int .i64 r.h, .int .i64 r.tm, .bool r.op] 31)
    have hbx := Blk.new w1 #[.int .i64 r.id, .int .i64 r.to, .int .i64 r.h, .int .i64 r.tm, .bool r.op] 31
    have hrowA := hrow.frm hA (fun _ _ h => h)
    have hpvlt := hrow.lt
    have hq200 : ((l.take i).filter (askWaits who)).length ≤ 200 := Nat.le_trans (List.length_filter_le _ _) (Nat.le_trans (by rw [List.length_take]; omega) hll)
    refine on_kf hK5 [(5, .int .i64 N), (6, .pointer (some ⟨fb, 0, none⟩)), (8, .slice (some ⟨g, 0, none⟩) l.length cp), (15, .int .i64 id), (24, .int .i64 who), (25, pv), (26, .int .i64 (c : Int)), (28, .pointer (some ⟨w1.heap.size, 0, none⟩)), (63, rv), (64, .int .i64 (m : Int)), (65, .int .i64 (k : Int)), (193, .slice (some ⟨g, 0, none⟩) l.length cp), (194, .int .i64 (l.length : Int)), (195, .int .i64 (i : Int))] (by simp [h5, h6, h8, h15, h24, h25, h26, h63, h64, h65, h193, h194, h195]) hds ?_
    clear hK5 h5 h6 h8 h15 h24 h25 h26 h63 h64 h65 h193 h194 h195 hds; intro s hs hds
    obtain ⟨h5, h6, h8, h15, h24, h25, h26, h28, h63, h64, h65, h193, h194, h195⟩ := facts14 hs; clear hs
    refine at_seq rfl fun K6 hK6 => ?_
    refine segI1 s _ _ _ N fb _ rv id m k who pv (c : Int) l.length i w1.heap.size r _ ⟨⟨h5, h6, h8, h15, h63, h64, h65, hds⟩, h24, h25, h26, h193, h194, h195⟩ h28 hbx hrowA hq200 ?_
    clear h5 h6 h8 h15 h63 h64 h65 h24 h25 h26 h28 h193 h194 h195 hds s
    intro s w2 pv' hf h28 hfr hrow2 hown2
    have hw2 : New w w2 := Frm.trans (New.trans hw hA) hfr (fun b hb h => by have := hown b h; omega)
    have hown2' : ∀ g, pv'.ownBlock = some g → w.heap.size ≤ g := by
      intro g hg
      rcases hown2 g hg with h | h
      · exact hown g h
      · have := hw.size; have := hA.size; omega
    have hbx2 := hbx.frm hfr (fun h => by have := hpvlt _ h; omega)
    have hL2 := hL.new hw2
    clear hbx hrowA hfr hL1 hr1 e0 e1 e2 e3 e4 hA hown2 hrow
    refine hK6 _ _ ?_
    clear hK6
    refine at_seq rfl fun K7 hK7 => ?_
    refine segI2 s _ _ _ N fb _ rv id m k who pv' c l.length i w1.heap.size r hf h28 hbx2 hc200 ?_
    intro s hf h28
    refine hK7 _ _ ?_
    clear hK7
    obtain ⟨mb, lv, F, hfl, _⟩ := hL2.fl.ex
    have his := is_yes fb mb N lv l r.id who i r w2 hfl (hp.each i r hri).1 hri
    refine segI3 s _ _ _ N fb _ rv id m k who pv' _ l.length i w1.heap.size r (fun w' => w2 = w') hf h28 hbx2 his ?_
    intro s w3 hf hw3
    subst hw3
    refine hK4 _ _ ?_
    clear hK4
    obtain ⟨⟨h5, h6, h8, h15, h63, h64, h65, hds⟩, h24, h25, h26, h193, h194, h195⟩ := hf
    have d1 : IntKind.i64.wrap ((i : Int) + 1) = (i : Int) + 1 := IntWalk.i64_in _ (by omega)
    (conv => arg 4; whnf)
    refine fw_region_lit rfl ?_
    simp [go_sem, opsF, opF, upF, Region.wanted, Fr.ev, Fr.put, thenE, inBlockE, Oper.semAt, yieldF, h195, d1]
    refine ⟨l.length - (i + 1), by omega, i + 1, pv', by omega, rfl, ⟨⟨?_, ?_, ?_, ?_, ?_, ?_, ?_, ?_⟩, ?_, ?_, ?_, ?_, ?_, ?_⟩, hw2, ?_, hown2'⟩
    iterate 10 (focus (simp [h5, h6, h8, h15, h63, h64, h65, hds, h24, h25]; done))
    · rw [filter_take_succ _ _ _ _ hri, List.length_append, hcc]
      simp only [h26, reduceCtorEq, if_false]
      cases askHas who r <;> simp [h26]
    · simp [h193]
    · simp [h194]
    · simp
    · rw [filter_take_succ _ _ _ _ hri]
      exact hrow2
  · have d0 : ¬ (i : Int) < (l.length : Int) := by omega
    have hil : l.take i = l := List.take_of_length_le (by omega)
    rw [hil] at hrow hcc
    refine at_seq rfl fun K8 hK8 => ?_
    (conv => arg 4; whnf)
    refine fw_region_lit rfl ?_
    simp [go_sem, opsF, opF, upF, Region.wanted, Fr.ev, Fr.put, thenE, inBlockE, Oper.semAt, yieldF, h5, h6, h8, h15, h24, h25, h26, h63, h64, h65, h193, h194, h195, d0]
    refine on_kf hK8 [(5, .int .i64 N), (6, .pointer (some ⟨fb, 0, none⟩)), (8, .slice ad l.length cp), (15, .int .i64 id), (24, .int .i64 who), (25, pv), (26, .int .i64 (c : Int)), (63, rv), (64, .int .i64 (m : Int)), (65, .int .i64 (k : Int)), (193, .slice ad l.length cp), (194, .int .i64 (l.length : Int)), (195, .int .i64 (i : Int)), (196, .bool false)] (by simp [h5, h6, h8, h15, h24, h25, h26, h63, h64, h65, h193, h194, h195]) hds ?_
    clear hK8 h5 h6 h8 h15 h24 h25 h26 h63 h64 h65 h193 h194 h195 hds; intro s hs hds
    obtain ⟨h5, h6, h8, h15, h24, h25, h26, h63, h64, h65, h193, h194, h195, h196⟩ := facts14 hs; clear hs
    refine at_seq rfl fun K9 hK9 => ?_
    refine at_false 196 rfl h196 ?_
    refine at_exit 6 rfl ?_
    simp only [inBlockE, thenE]
    exact hK s w1 pv ⟨h5, h6, h8, h15, h63, h64, h65, hds⟩ h24 h25 (by rw [hcc]; exact h26) hw hrow
end Go.Proofs.Ytiejaopidkghdaa
