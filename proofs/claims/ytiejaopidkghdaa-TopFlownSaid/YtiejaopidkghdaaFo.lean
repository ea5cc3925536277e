/- What the law asks of each request. -/
import Derived.Test.YtiejaopidkghdaaFn
namespace Go.Proofs.Ytiejaopidkghdaa
set_option linter.unusedSimpArgs false
set_option linter.unusedVariables false
open Go.RowKit Go.Lf

theorem segSent (s : Fr) (w0 w : World) (K : Fr → World → Prop) (Q : Exit → Fr → World → Prop) (N : Int) (fb : Nat) (l : List Rq) (S : Nat → Prop) (ov rv : Value) (ys : List Value) (id : Int) (m k : Nat)
    (hs : FS N fb ov rv id m k s) (hL : LW w0 fb N l S ov rv m ys w) (hll : l.length ≤ 200)
    (hK : ∀ s w', FS N fb ov rv id m k s → LW w0 fb N l S ov rv m ys w' → K s w') : FW Try.prog 303 none (sub body3 [0,1,1,1,1,0,0,1,1,0,0,1,0,1,1,1,1,1,1]) (thenE K Q) s w := by
  obtain ⟨h5, h6, h8, h15, h63, h64, h65, hds⟩ := hs
  refine at_seq rfl fun K1 hK1 => ?_
  (conv => arg 4; whnf)
  refine fw_region_lit rfl ?_
  simp [go_sem, opsF, opF, upF, Region.wanted, Fr.ev, Fr.put, thenE, inBlockE, Oper.semAt, yieldF, h5, h6, h8, h15, h63, h64, h65]
  refine (sent_any fb N l S w hL.fl (by omega)).on ?_
  rintro v w1 ⟨hrow, hw1, _⟩
  have hL1 := hL.new hw1
  refine (equal_any v ov l w1 hrow hL1.own).on ?_
  rintro b w2 ⟨rfl, hw2⟩
  simp [go_sem, opsF, opF, upF, Region.wanted, Fr.ev, Fr.put, thenE, inBlockE, Oper.semAt, yieldF, h5, h6, h8, h15, h63, h64, h65]
  refine on_kf hK1 [(5, .int .i64 N), (6, .pointer (some ⟨fb, 0, none⟩)), (8, ov), (15, .int .i64 id), (63, rv), (64, .int .i64 (m : Int)), (65, .int .i64 (k : Int)), (187, .bool false)] (by simp [h5, h6, h8, h15, h63, h64, h65]) hds ?_
  clear hK1 h5 h6 h8 h15 h63 h64 h65 hds; intro s hs hds
  obtain ⟨h5, h6, h8, h15, h63, h64, h65, h187⟩ := facts8 hs; clear hs
  refine at_false 187 rfl h187 ?_
  refine at_skip rfl ?_
  exact hK _ _ ⟨h5, h6, h8, h15, h63, h64, h65, hds⟩ (hL1.new hw2)

/-- The slots of a look at one request. -/
structure FI (N : Int) (fb : Nat) (ov rv : Value) (id : Int) (m k : Nat) (who : Int) (pv : Value) (c : Int) (n i : Nat) (s : Fr) : Prop where
  fs : FS N fb ov rv id m k s
  t24 : s.t 24 = .int .i64 who
  t25 : s.t 25 = pv
  t26 : s.t 26 = .int .i64 c
  t193 : s.t 193 = ov
  t194 : s.t 194 = .int .i64 (n : Int)
  t195 : s.t 195 = .int .i64 (i : Int)

set_option maxHeartbeats 1000000 in
theorem segI1 (s : Fr) (w : World) (K : Fr → World → Prop) (Q : Exit → Fr → World → Prop) (N : Int) (fb : Nat) (ov rv : Value) (id : Int) (m k : Nat) (who : Int) (pv : Value) (c : Int) (n i bx : Nat) (r : Rq) (q : List Rq)
    (hs : FI N fb ov rv id m k who pv c n i s) (h28 : s.t 28 = .pointer (some ⟨bx, 0, none⟩)) (hb : Blk w bx #[.int .i64 r.id, .int .i64 r.to, .int .i64 r.h, .int .i64 r.tm, .bool r.op] 31)
    (hrow : Row w 3 1 pv q.length (q.map fun r => .int .i64 r.id)) (hq : q.length ≤ 200)
    (hK : ∀ s w' pv', FI N fb ov rv id m k who pv' c n i s → s.t 28 = .pointer (some ⟨bx, 0, none⟩) → Frm (fun b => pv.ownBlock = some b) w w' → Row w' 3 1 pv' (q ++ if askWaits who r then [r] else []).length ((q ++ if askWaits who r then [r] else []).map fun r => .int .i64 r.id) →
      (∀ g, pv'.ownBlock = some g → pv.ownBlock = some g ∨ w.heap.size ≤ g) → K s w') : FW Try.prog 303 none (sub body3 [0,1,0,0,1,1,0,0,1,0,1,1,0,0,1,0,0,1,0,1,1,1,1,1,0,0,1,1,0,0,1,0,1,1,1,1,1,1]) (thenE K Q) s w := by
  obtain ⟨⟨h5, h6, h8, h15, h63, h64, h65, hds⟩, h24, h25, h26, h193, h194, h195⟩ := hs
  have x0 := hb.cell 0
  have x1 := hb.cell 1
  have x4 := hb.cell 4
  simp only [List.getElem?_toArray, List.getElem?_cons_zero, List.getElem?_cons_succ] at x0 x1 x4
  cases ha : askWaits who r
  · rw [ha] at hK
    have hK' : ∀ s, FI N fb ov rv id m k who pv c n i s → s.t 28 = .pointer (some ⟨bx, 0, none⟩) → K s w := fun s h1 h2 => hK s w pv h1 h2 (Frm.refl _ _) (by simpa using hrow) (fun g hg => .inl hg)
    cases hop : r.op
    · rw [hop] at x4
      refine at_seq rfl fun K2 hK2 => ?_
      (conv => arg 4; whnf)
      refine fw_region_lit rfl ?_
      simp [go_sem, opsF, opF, upF, Region.wanted, Fr.ev, Fr.put, thenE, inBlockE, Oper.semAt, yieldF, h5, h6, h8, h15, h24, h25, h26, h28, h63, h64, h65, h193, h194, h195, x0, x1, x4]
      refine on_kf hK2 [(5, .int .i64 N), (6, .pointer (some ⟨fb, 0, none⟩)), (8, ov), (15, .int .i64 id), (24, .int .i64 who), (25, pv), (26, .int .i64 c), (28, .pointer (some ⟨bx, 0, none⟩)), (63, rv), (64, .int .i64 (m : Int)), (65, .int .i64 (k : Int)), (193, ov), (194, .int .i64 (n : Int)), (195, .int .i64 (i : Int)), (210, .bool false)] (by simp [h5, h6, h8, h15, h24, h25, h26, h28, h63, h64, h65, h193, h194, h195]) hds ?_
      clear hK2 h5 h6 h8 h15 h24 h25 h26 h28 h63 h64 h65 h193 h194 h195 hds; intro s hs hds
      obtain ⟨h5, h6, h8, h15, h24, h25, h26, h28, h63, h64, h65, h193, h194, h195, h210⟩ := facts15 hs; clear hs
      refine at_false 210 rfl h210 ?_
      refine at_skip rfl ?_
      exact hK' s ⟨⟨h5, h6, h8, h15, h63, h64, h65, hds⟩, h24, h25, h26, h193, h194, h195⟩ h28
    · rw [hop] at x4
      simp [askWaits, hop, askHas] at ha
      obtain ⟨a1, a2⟩ := ha
      have a2' : ¬ r.to = who := fun e => a2 e.symm
      have a3 : (who == (-1 : Int)) = false := by simp [a1]
      have a4 : (r.to == who) = false := by simp [a2']
      refine at_seq rfl fun K3 hK3 => ?_
      (conv => arg 4; whnf)
      refine fw_region_lit rfl ?_
      simp [go_sem, opsF, opF, upF, Region.wanted, Fr.ev, Fr.put, thenE, inBlockE, Oper.semAt, yieldF, h5, h6, h8, h15, h24, h25, h26, h28, h63, h64, h65, h193, h194, h195, x0, x1, x4, a3, a4]
      refine on_kf hK3 [(5, .int .i64 N), (6, .pointer (some ⟨fb, 0, none⟩)), (8, ov), (15, .int .i64 id), (24, .int .i64 who), (25, pv), (26, .int .i64 c), (28, .pointer (some ⟨bx, 0, none⟩)), (63, rv), (64, .int .i64 (m : Int)), (65, .int .i64 (k : Int)), (193, ov), (194, .int .i64 (n : Int)), (195, .int .i64 (i : Int)), (210, .bool false)] (by simp [h5, h6, h8, h15, h24, h25, h26, h28, h63, h64, h65, h193, h194, h195]) hds ?_
      clear hK3 h5 h6 h8 h15 h24 h25 h26 h28 h63 h64 h65 h193 h194 h195 hds; intro s hs hds
      obtain ⟨h5, h6, h8, h15, h24, h25, h26, h28, h63, h64, h65, h193, h194, h195, h210⟩ := facts15 hs; clear hs
      refine at_false 210 rfl h210 ?_
      refine at_skip rfl ?_
      exact hK' s ⟨⟨h5, h6, h8, h15, h63, h64, h65, hds⟩, h24, h25, h26, h193, h194, h195⟩ h28
  · rw [ha] at hK
    have hop : r.op = true := by
      cases h : r.op
      · simp [askWaits, h] at ha
      · rfl
    rw [hop] at x4
    have hcase : who = -1 ∨ (¬ who = -1 ∧ r.to = who) := by
      simp [askWaits, hop, askHas] at ha
      omega
    obtain ⟨ad, cp, rfl⟩ : ∃ ad cp, pv = .slice ad q.length cp := by
      rcases hrow.val with ⟨h, h', _⟩ | ⟨g, cap, h, _⟩
      · exact ⟨none, 0, by rw [h, h']⟩
      · exact ⟨_, cap, h⟩
    have hA := Frm.alloc (fun _ => False) w (.cells #[.int .i64 r.id] 3)
    obtain ⟨v', w3, hap, hrow3, hfr3, _, hown3⟩ := (hrow.frm hA (fun _ _ h => h)).append (P := Try.prog) (t := 39) (ty := 39) Try.underlying39 info3 rfl (by decide) ⟨w.heap.size, 0, none⟩ 1 1 _ rfl
      (new_cells w [.int .i64 r.id] 3) (by simp [Value.oneCell']) (by unfold maxLen; omega) (by omega)
    have hfin : ∀ s, FI N fb ov rv id m k who v' c n i s → s.t 28 = .pointer (some ⟨bx, 0, none⟩) → K s w3 := by
      intro s h1 h2
      refine hK s w3 v' h1 h2 (Frm.trans (hA.mono (fun _ _ h => h.elim)) hfr3 (fun _ _ h => h)) (by simpa using hrow3) (fun g hg => ?_)
      rcases hown3 g hg with h | ⟨h, _⟩
      · exact .inl h
      · simp only [World.size_alloc] at h; exact .inr (by omega)
    obtain ⟨g', cap', rfl⟩ : ∃ g' cap', v' = .slice (some ⟨g', 0, none⟩) (q.length + 1) cap' := by
      rcases hrow3.val with ⟨_, h, _⟩ | ⟨g, cap, h, _⟩
      · omega
      · exact ⟨g, cap, h⟩
    rcases hcase with a1 | ⟨a1, a2⟩
    · refine at_seq rfl fun K4 hK4 => ?_
      (conv => arg 4; whnf)
      refine fw_region_lit rfl ?_
      simp [go_sem, opsF, opF, upF, Region.wanted, Fr.ev, Fr.put, thenE, inBlockE, Oper.semAt, yieldF, h5, h6, h8, h15, h24, h25, h26, h28, h63, h64, h65, h193, h194, h195, x0, x1, x4, a1]
      refine on_kf hK4 [(5, .int .i64 N), (6, .pointer (some ⟨fb, 0, none⟩)), (8, ov), (15, .int .i64 id), (24, .int .i64 who), (25, .slice ad q.length cp), (26, .int .i64 c), (28, .pointer (some ⟨bx, 0, none⟩)), (63, rv), (64, .int .i64 (m : Int)), (65, .int .i64 (k : Int)), (193, ov), (194, .int .i64 (n : Int)), (195, .int .i64 (i : Int)), (210, .bool true)] (by simp [h5, h6, h8, h15, h24, h25, h26, h28, h63, h64, h65, h193, h194, h195]) hds ?_
      clear hK4 h5 h6 h8 h15 h24 h25 h26 h28 h63 h64 h65 h193 h194 h195 hds; intro s hs hds
      obtain ⟨h5, h6, h8, h15, h24, h25, h26, h28, h63, h64, h65, h193, h194, h195, h210⟩ := facts15 hs; clear hs
      refine at_true 210 rfl h210 ?_
      (conv => arg 4; whnf)
      refine fw_region_lit rfl ?_
      refine ops_take 4 fun KO hKO => ?_
      simp [go_sem, opsF, opF, upF, Region.wanted, Fr.ev, Fr.put, thenE, inBlockE, Oper.semAt, yieldF, h5, h6, h8, h15, h24, h25, h26, h28, h63, h64, h65, h193, h194, h195, h210, x0]
      refine hKO _ _ ?_
      clear hKO
      refine ops_append rfl rfl rfl (v := .slice ad q.length cp) (u := .slice (some ⟨w.heap.size, 0, none⟩) 1 1) (by simp [Fr.ev, Fr.put, h25]) (by simp [Fr.ev, Fr.put]) hap ?_
      simp [go_sem, opsF, opF, upF, Region.wanted, Fr.ev, Fr.put, thenE, inBlockE, Oper.semAt, yieldF, h5, h6, h8, h15, h24, h25, h26, h28, h63, h64, h65, h193, h194, h195, h210]
      refine hfin _ ⟨⟨?_, ?_, ?_, ?_, ?_, ?_, ?_, ?_⟩, ?_, ?_, ?_, ?_, ?_, ?_⟩ ?_ <;> simp [h5, h6, h8, h15, h63, h64, h65, hds, h24, h26, h193, h194, h195, h28]
    · refine at_seq rfl fun K5 hK5 => ?_
      (conv => arg 4; whnf)
      refine fw_region_lit rfl ?_
      simp [go_sem, opsF, opF, upF, Region.wanted, Fr.ev, Fr.put, thenE, inBlockE, Oper.semAt, yieldF, h5, h6, h8, h15, h24, h25, h26, h28, h63, h64, h65, h193, h194, h195, x0, x1, x4, a1, a2]
      refine on_kf hK5 [(5, .int .i64 N), (6, .pointer (some ⟨fb, 0, none⟩)), (8, ov), (15, .int .i64 id), (24, .int .i64 who), (25, .slice ad q.length cp), (26, .int .i64 c), (28, .pointer (some ⟨bx, 0, none⟩)), (63, rv), (64, .int .i64 (m : Int)), (65, .int .i64 (k : Int)), (193, ov), (194, .int .i64 (n : Int)), (195, .int .i64 (i : Int)), (210, .bool true)] (by simp [h5, h6, h8, h15, h24, h25, h26, h28, h63, h64, h65, h193, h194, h195]) hds ?_
      clear hK5 h5 h6 h8 h15 h24 h25 h26 h28 h63 h64 h65 h193 h194 h195 hds; intro s hs hds
      obtain ⟨h5, h6, h8, h15, h24, h25, h26, h28, h63, h64, h65, h193, h194, h195, h210⟩ := facts15 hs; clear hs
      refine at_true 210 rfl h210 ?_
      (conv => arg 4; whnf)
      refine fw_region_lit rfl ?_
      refine ops_take 4 fun KO hKO => ?_
      simp [go_sem, opsF, opF, upF, Region.wanted, Fr.ev, Fr.put, thenE, inBlockE, Oper.semAt, yieldF, h5, h6, h8, h15, h24, h25, h26, h28, h63, h64, h65, h193, h194, h195, h210, x0]
      refine hKO _ _ ?_
      clear hKO
      refine ops_append rfl rfl rfl (v := .slice ad q.length cp) (u := .slice (some ⟨w.heap.size, 0, none⟩) 1 1) (by simp [Fr.ev, Fr.put, h25]) (by simp [Fr.ev, Fr.put]) hap ?_
      simp [go_sem, opsF, opF, upF, Region.wanted, Fr.ev, Fr.put, thenE, inBlockE, Oper.semAt, yieldF, h5, h6, h8, h15, h24, h25, h26, h28, h63, h64, h65, h193, h194, h195, h210]
      refine hfin _ ⟨⟨?_, ?_, ?_, ?_, ?_, ?_, ?_, ?_⟩, ?_, ?_, ?_, ?_, ?_, ?_⟩ ?_ <;> simp [h5, h6, h8, h15, h63, h64, h65, hds, h24, h26, h193, h194, h195, h28]

theorem segI2 (s : Fr) (w : World) (K : Fr → World → Prop) (Q : Exit → Fr → World → Prop) (N : Int) (fb : Nat) (ov rv : Value) (id : Int) (m k : Nat) (who : Int) (pv : Value) (c : Nat) (n i bx : Nat) (r : Rq)
    (hs : FI N fb ov rv id m k who pv (c : Int) n i s) (h28 : s.t 28 = .pointer (some ⟨bx, 0, none⟩)) (hb : Blk w bx #[.int .i64 r.id, .int .i64 r.to, .int .i64 r.h, .int .i64 r.tm, .bool r.op] 31) (hc : c ≤ 200)
    (hK : ∀ s, FI N fb ov rv id m k who pv ((if askHas who r then c + 1 else c : Nat) : Int) n i s → s.t 28 = .pointer (some ⟨bx, 0, none⟩) → K s w) : FW Try.prog 303 none (sub body3 [0,1,1,0,0,1,1,0,0,1,0,1,1,0,0,1,0,0,1,0,1,1,1,1,1,0,0,1,1,0,0,1,0,1,1,1,1,1,1]) (thenE K Q) s w := by
  obtain ⟨⟨h5, h6, h8, h15, h63, h64, h65, hds⟩, h24, h25, h26, h193, h194, h195⟩ := hs
  have x1 := hb.cell 1
  simp only [List.getElem?_toArray, List.getElem?_cons_zero, List.getElem?_cons_succ] at x1
  by_cases ha : r.to = who
  · have ha' : askHas who r = true := by simp [askHas, ha]
    rw [ha'] at hK
    have e1 : IntKind.i64.wrap ((c : Int) + 1) = (c : Int) + 1 := IntWalk.i64_in _ (by omega)
    refine at_seq rfl fun K6 hK6 => ?_
    (conv => arg 4; whnf)
    refine fw_region_lit rfl ?_
    simp [go_sem, opsF, opF, upF, Region.wanted, Fr.ev, Fr.put, thenE, inBlockE, Oper.semAt, yieldF, h5, h6, h8, h15, h24, h25, h26, h28, h63, h64, h65, h193, h194, h195, x1, ha]
    refine on_kf hK6 [(5, .int .i64 N), (6, .pointer (some ⟨fb, 0, none⟩)), (8, ov), (15, .int .i64 id), (24, .int .i64 who), (25, pv), (26, .int .i64 (c : Int)), (28, .pointer (some ⟨bx, 0, none⟩)), (63, rv), (64, .int .i64 (m : Int)), (65, .int .i64 (k : Int)), (193, ov), (194, .int .i64 (n : Int)), (195, .int .i64 (i : Int)), (219, .bool true)] (by simp [h5, h6, h8, h15, h24, h25, h26, h28, h63, h64, h65, h193, h194, h195]) hds ?_
    clear hK6 h5 h6 h8 h15 h24 h25 h26 h28 h63 h64 h65 h193 h194 h195 hds; intro s hs hds
    obtain ⟨h5, h6, h8, h15, h24, h25, h26, h28, h63, h64, h65, h193, h194, h195, h219⟩ := facts15 hs; clear hs
    refine at_true 219 rfl h219 ?_
    (conv => arg 4; whnf)
    refine fw_region_lit rfl ?_
    simp [go_sem, opsF, opF, upF, Region.wanted, Fr.ev, Fr.put, thenE, inBlockE, Oper.semAt, yieldF, h5, h6, h8, h15, h24, h25, h26, h28, h63, h64, h65, h193, h194, h195, h219, e1]
    refine hK _ ⟨⟨?_, ?_, ?_, ?_, ?_, ?_, ?_, ?_⟩, ?_, ?_, ?_, ?_, ?_, ?_⟩ ?_ <;> simp [h5, h6, h8, h15, h63, h64, h65, hds, h24, h25, h26, h193, h194, h195, h28]
  · have ha' : askHas who r = false := by simp [askHas]; exact fun e => ha e.symm
    have hb' : (r.to == who) = false := by simp [ha]
    rw [ha'] at hK
    refine at_seq rfl fun K7 hK7 => ?_
    (conv => arg 4; whnf)
    refine fw_region_lit rfl ?_
    simp [go_sem, opsF, opF, upF, Region.wanted, Fr.ev, Fr.put, thenE, inBlockE, Oper.semAt, yieldF, h5, h6, h8, h15, h24, h25, h26, h28, h63, h64, h65, h193, h194, h195, x1, hb']
    refine on_kf hK7 [(5, .int .i64 N), (6, .pointer (some ⟨fb, 0, none⟩)), (8, ov), (15, .int .i64 id), (24, .int .i64 who), (25, pv), (26, .int .i64 (c : Int)), (28, .pointer (some ⟨bx, 0, none⟩)), (63, rv), (64, .int .i64 (m : Int)), (65, .int .i64 (k : Int)), (193, ov), (194, .int .i64 (n : Int)), (195, .int .i64 (i : Int)), (219, .bool false)] (by simp [h5, h6, h8, h15, h24, h25, h26, h28, h63, h64, h65, h193, h194, h195]) hds ?_
    clear hK7 h5 h6 h8 h15 h24 h25 h26 h28 h63 h64 h65 h193 h194 h195 hds; intro s hs hds
    obtain ⟨h5, h6, h8, h15, h24, h25, h26, h28, h63, h64, h65, h193, h194, h195, h219⟩ := facts15 hs; clear hs
    refine at_false 219 rfl h219 ?_
    refine at_skip rfl ?_
    exact hK s ⟨⟨h5, h6, h8, h15, h63, h64, h65, hds⟩, h24, h25, h26, h193, h194, h195⟩ h28

/-- What Is says of a request. -/
theorem segI4 (s : Fr) (w : World) (K : Fr → World → Prop) (Q : Exit → Fr → World → Prop) (N : Int) (fb : Nat) (ov rv : Value) (id : Int) (m k : Nat) (who : Int) (pv : Value) (c : Int) (n i bx : Nat) (r : Rq) (R : World → Prop)
    (hs : FI N fb ov rv id m k who pv c n i s) (h28 : s.t 28 = .pointer (some ⟨bx, 0, none⟩)) (h29 : s.t 29 = .int .i64 (isOf r who)) (hb : Blk w bx #[.int .i64 r.id, .int .i64 r.to, .int .i64 r.h, .int .i64 r.tm, .bool r.op] 31)
    (hc : CallsV Try.prog 12 #[.pointer (some ⟨fb, 0, none⟩), .int .i64 r.id, .int .i64 who] w fun v w' => v = .int .i64 (isOf r who) ∧ R w')
    (hK : ∀ s w', FI N fb ov rv id m k who pv c n i s → R w' → K s w') : FW Try.prog 303 none (sub body3 [1,1,1,1,1,0,0,1,1,0,0,1,0,1,1,0,0,1,0,0,1,0,1,1,1,1,1,0,0,1,1,0,0,1,0,1,1,1,1,1,1]) (inBlockE 7 (thenE K Q)) s w := by
  obtain ⟨⟨h5, h6, h8, h15, h63, h64, h65, hds⟩, h24, h25, h26, h193, h194, h195⟩ := hs
  have x0 := hb.cell 0
  simp only [List.getElem?_toArray, List.getElem?_cons_zero, List.getElem?_cons_succ] at x0
  generalize hv : isOf r who = v at *
  refine at_seq rfl fun K8 hK8 => ?_
  (conv => arg 4; whnf)
  refine fw_region_lit rfl ?_
  simp [go_sem, opsF, opF, upF, Region.wanted, Fr.ev, Fr.put, thenE, inBlockE, Oper.semAt, yieldF, h5, h6, h8, h15, h24, h25, h26, h28, h29, h63, h64, h65, h193, h194, h195, x0]
  refine hc.on ?_
  rintro _ w1 ⟨rfl, hR⟩
  simp [go_sem, opsF, opF, upF, Region.wanted, Fr.ev, Fr.put, thenE, inBlockE, Oper.semAt, yieldF, h5, h6, h8, h15, h24, h25, h26, h28, h29, h63, h64, h65, h193, h194, h195]
  refine on_kf hK8 [(5, .int .i64 N), (6, .pointer (some ⟨fb, 0, none⟩)), (8, ov), (15, .int .i64 id), (24, .int .i64 who), (25, pv), (26, .int .i64 c), (28, .pointer (some ⟨bx, 0, none⟩)), (29, .int .i64 v), (63, rv), (64, .int .i64 (m : Int)), (65, .int .i64 (k : Int)), (193, ov), (194, .int .i64 (n : Int)), (195, .int .i64 (i : Int)), (234, .bool false)] (by simp [h5, h6, h8, h15, h24, h25, h26, h28, h29, h63, h64, h65, h193, h194, h195]) hds ?_
  clear hK8 h5 h6 h8 h15 h24 h25 h26 h28 h29 h63 h64 h65 h193 h194 h195 hds; intro s hs hds
  obtain ⟨h5, h6, h8, h15, h24, h25, h26, h28, h29, h63, h64, h65, h193, h194, h195, h234⟩ := facts16 hs; clear hs
  refine at_false 234 rfl h234 ?_
  refine at_skip rfl ?_
  exact hK s w1 ⟨⟨h5, h6, h8, h15, h63, h64, h65, hds⟩, h24, h25, h26, h193, h194, h195⟩ hR

/-- What the law expects of Is, and what Is says. -/
theorem segI3 (s : Fr) (w : World) (K : Fr → World → Prop) (Q : Exit → Fr → World → Prop) (N : Int) (fb : Nat) (ov rv : Value) (id : Int) (m k : Nat) (who : Int) (pv : Value) (c : Int) (n i bx : Nat) (r : Rq) (R : World → Prop)
    (hs : FI N fb ov rv id m k who pv c n i s) (h28 : s.t 28 = .pointer (some ⟨bx, 0, none⟩)) (hb : Blk w bx #[.int .i64 r.id, .int .i64 r.to, .int .i64 r.h, .int .i64 r.tm, .bool r.op] 31)
    (hc : CallsV Try.prog 12 #[.pointer (some ⟨fb, 0, none⟩), .int .i64 r.id, .int .i64 who] w fun v w' => v = .int .i64 (isOf r who) ∧ R w')
    (hK : ∀ s w', FI N fb ov rv id m k who pv c n i s → R w' → K s w') : FW Try.prog 303 none (sub body3 [1,1,1,0,0,1,1,0,0,1,0,1,1,0,0,1,0,0,1,0,1,1,1,1,1,0,0,1,1,0,0,1,0,1,1,1,1,1,1]) (inBlockE 7 (thenE K Q)) s w := by
  obtain ⟨⟨h5, h6, h8, h15, h63, h64, h65, hds⟩, h24, h25, h26, h193, h194, h195⟩ := hs
  have x1 := hb.cell 1
  have x4 := hb.cell 4
  simp only [List.getElem?_toArray, List.getElem?_cons_zero, List.getElem?_cons_succ] at x1 x4
  refine at_seq rfl fun K9 hK9 => ?_
  (conv => arg 4; whnf)
  refine fw_region_lit rfl ?_
  simp [go_sem, opsF, opF, upF, Region.wanted, Fr.ev, Fr.put, thenE, inBlockE, Oper.semAt, yieldF, h5, h6, h8, h15, h24, h25, h26, h28, h63, h64, h65, h193, h194, h195]
  refine on_kf hK9 [(5, .int .i64 N), (6, .pointer (some ⟨fb, 0, none⟩)), (8, ov), (15, .int .i64 id), (24, .int .i64 who), (25, pv), (26, .int .i64 c), (28, .pointer (some ⟨bx, 0, none⟩)), (29, .int .i64 0), (63, rv), (64, .int .i64 (m : Int)), (65, .int .i64 (k : Int)), (193, ov), (194, .int .i64 (n : Int)), (195, .int .i64 (i : Int))] (by simp [h5, h6, h8, h15, h24, h25, h26, h28, h63, h64, h65, h193, h194, h195]) hds ?_
  clear hK9 h5 h6 h8 h15 h24 h25 h26 h28 h63 h64 h65 h193 h194 h195 hds; intro s hs hds
  obtain ⟨h5, h6, h8, h15, h24, h25, h26, h28, h29, h63, h64, h65, h193, h194, h195⟩ := facts15 hs; clear hs
  refine at_seq rfl fun K10 hK10 => ?_
  refine at_seq rfl fun K11 hK11 => ?_
  by_cases ha : r.to = who
  · (conv => arg 4; whnf)
    refine fw_region_lit rfl ?_
    simp [go_sem, opsF, opF, upF, Region.wanted, Fr.ev, Fr.put, thenE, inBlockE, Oper.semAt, yieldF, h5, h6, h8, h15, h24, h25, h26, h28, h29, h63, h64, h65, h193, h194, h195, x1, ha]
    refine on_kf hK11 [(5, .int .i64 N), (6, .pointer (some ⟨fb, 0, none⟩)), (8, ov), (15, .int .i64 id), (24, .int .i64 who), (25, pv), (26, .int .i64 c), (28, .pointer (some ⟨bx, 0, none⟩)), (29, .int .i64 0), (63, rv), (64, .int .i64 (m : Int)), (65, .int .i64 (k : Int)), (193, ov), (194, .int .i64 (n : Int)), (195, .int .i64 (i : Int)), (225, .bool true)] (by simp [h5, h6, h8, h15, h24, h25, h26, h28, h29, h63, h64, h65, h193, h194, h195]) hds ?_
    clear hK11 h5 h6 h8 h15 h24 h25 h26 h28 h29 h63 h64 h65 h193 h194 h195 hds; intro s hs hds
    obtain ⟨h5, h6, h8, h15, h24, h25, h26, h28, h29, h63, h64, h65, h193, h194, h195, h225⟩ := facts16 hs; clear hs
    refine at_true 225 rfl h225 ?_
    refine at_seq rfl fun K12 hK12 => ?_
    (conv => arg 4; whnf)
    refine fw_region_lit rfl ?_
    simp [go_sem, opsF, opF, upF, Region.wanted, Fr.ev, Fr.put, thenE, inBlockE, Oper.semAt, yieldF, h5, h6, h8, h15, h24, h25, h26, h28, h29, h63, h64, h65, h193, h194, h195, h225]
    refine on_kf hK12 [(5, .int .i64 N), (6, .pointer (some ⟨fb, 0, none⟩)), (8, ov), (15, .int .i64 id), (24, .int .i64 who), (25, pv), (26, .int .i64 c), (28, .pointer (some ⟨bx, 0, none⟩)), (29, .int .i64 2), (63, rv), (64, .int .i64 (m : Int)), (65, .int .i64 (k : Int)), (193, ov), (194, .int .i64 (n : Int)), (195, .int .i64 (i : Int)), (225, .bool true)] (by simp [h5, h6, h8, h15, h24, h25, h26, h28, h29, h63, h64, h65, h193, h194, h195, h225]) hds ?_
    clear hK12 h5 h6 h8 h15 h24 h25 h26 h28 h29 h63 h64 h65 h193 h194 h195 h225 hds; intro s hs hds
    obtain ⟨h5, h6, h8, h15, h24, h25, h26, h28, h29, h63, h64, h65, h193, h194, h195, h225⟩ := facts16 hs; clear hs
    refine at_seq rfl fun K13 hK13 => ?_
    cases hop : r.op
    · rw [hop] at x4
      (conv => arg 4; whnf)
      refine fw_region_lit rfl ?_
      simp [go_sem, opsF, opF, upF, Region.wanted, Fr.ev, Fr.put, thenE, inBlockE, Oper.semAt, yieldF, h5, h6, h8, h15, h24, h25, h26, h28, h29, h63, h64, h65, h193, h194, h195, h225, x4]
      refine on_kf hK13 [(5, .int .i64 N), (6, .pointer (some ⟨fb, 0, none⟩)), (8, ov), (15, .int .i64 id), (24, .int .i64 who), (25, pv), (26, .int .i64 c), (28, .pointer (some ⟨bx, 0, none⟩)), (29, .int .i64 2), (63, rv), (64, .int .i64 (m : Int)), (65, .int .i64 (k : Int)), (193, ov), (194, .int .i64 (n : Int)), (195, .int .i64 (i : Int)), (225, .bool true), (227, .bool false)] (by simp [h5, h6, h8, h15, h24, h25, h26, h28, h29, h63, h64, h65, h193, h194, h195, h225]) hds ?_
      clear hK13 h5 h6 h8 h15 h24 h25 h26 h28 h29 h63 h64 h65 h193 h194 h195 h225 hds; intro s hs hds
      obtain ⟨h5, h6, h8, h15, h24, h25, h26, h28, h29, h63, h64, h65, h193, h194, h195, h225, h227⟩ := facts17 hs; clear hs
      refine at_false 227 rfl h227 ?_
      refine at_skip rfl ?_
      simp only [inBlockE, thenE]
      refine on_kf hK10 [(5, .int .i64 N), (6, .pointer (some ⟨fb, 0, none⟩)), (8, ov), (15, .int .i64 id), (24, .int .i64 who), (25, pv), (26, .int .i64 c), (28, .pointer (some ⟨bx, 0, none⟩)), (29, .int .i64 2), (63, rv), (64, .int .i64 (m : Int)), (65, .int .i64 (k : Int)), (193, ov), (194, .int .i64 (n : Int)), (195, .int .i64 (i : Int)), (225, .bool true), (227, .bool false)] (by simp [h5, h6, h8, h15, h24, h25, h26, h28, h29, h63, h64, h65, h193, h194, h195, h225, h227]) hds ?_
      clear hK10 h5 h6 h8 h15 h24 h25 h26 h28 h29 h63 h64 h65 h193 h194 h195 h225 h227 hds; intro s hs hds
      obtain ⟨h5, h6, h8, h15, h24, h25, h26, h28, h29, h63, h64, h65, h193, h194, h195, h225, h227⟩ := facts17 hs; clear hs
      have hv : isOf r who = 2 := by simp [isOf, ha, hop]
      exact segI4 s w K Q N fb ov rv id m k who pv c n i bx r R ⟨⟨h5, h6, h8, h15, h63, h64, h65, hds⟩, h24, h25, h26, h193, h194, h195⟩ h28 (by rw [hv]; exact h29) hb hc hK
    · rw [hop] at x4
      (conv => arg 4; whnf)
      refine fw_region_lit rfl ?_
      simp [go_sem, opsF, opF, upF, Region.wanted, Fr.ev, Fr.put, thenE, inBlockE, Oper.semAt, yieldF, h5, h6, h8, h15, h24, h25, h26, h28, h29, h63, h64, h65, h193, h194, h195, h225, x4]
      refine on_kf hK13 [(5, .int .i64 N), (6, .pointer (some ⟨fb, 0, none⟩)), (8, ov), (15, .int .i64 id), (24, .int .i64 who), (25, pv), (26, .int .i64 c), (28, .pointer (some ⟨bx, 0, none⟩)), (29, .int .i64 2), (63, rv), (64, .int .i64 (m : Int)), (65, .int .i64 (k : Int)), (193, ov), (194, .int .i64 (n : Int)), (195, .int .i64 (i : Int)), (225, .bool true), (227, .bool true)] (by simp [h5, h6, h8, h15, h24, h25, h26, h28, h29, h63, h64, h65, h193, h194, h195, h225]) hds ?_
      clear hK13 h5 h6 h8 h15 h24 h25 h26 h28 h29 h63 h64 h65 h193 h194 h195 h225 hds; intro s hs hds
      obtain ⟨h5, h6, h8, h15, h24, h25, h26, h28, h29, h63, h64, h65, h193, h194, h195, h225, h227⟩ := facts17 hs; clear hs
      refine at_true 227 rfl h227 ?_
      (conv => arg 4; whnf)
      refine fw_region_lit rfl ?_
      simp [go_sem, opsF, opF, upF, Region.wanted, Fr.ev, Fr.put, thenE, inBlockE, Oper.semAt, yieldF, h5, h6, h8, h15, h24, h25, h26, h28, h29, h63, h64, h65, h193, h194, h195, h225, h227]
      refine on_kf hK10 [(5, .int .i64 N), (6, .pointer (some ⟨fb, 0, none⟩)), (8, ov), (15, .int .i64 id), (24, .int .i64 who), (25, pv), (26, .int .i64 c), (28, .pointer (some ⟨bx, 0, none⟩)), (29, .int .i64 1), (63, rv), (64, .int .i64 (m : Int)), (65, .int .i64 (k : Int)), (193, ov), (194, .int .i64 (n : Int)), (195, .int .i64 (i : Int)), (225, .bool true), (227, .bool true)] (by simp [h5, h6, h8, h15, h24, h25, h26, h28, h29, h63, h64, h65, h193, h194, h195, h225, h227]) hds ?_
      clear hK10 h5 h6 h8 h15 h24 h25 h26 h28 h29 h63 h64 h65 h193 h194 h195 h225 h227 hds; intro s hs hds
      obtain ⟨h5, h6, h8, h15, h24, h25, h26, h28, h29, h63, h64, h65, h193, h194, h195, h225, h227⟩ := facts17 hs; clear hs
      have hv : isOf r who = 1 := by simp [isOf, ha, hop]
      exact segI4 s w K Q N fb ov rv id m k who pv c n i bx r R ⟨⟨h5, h6, h8, h15, h63, h64, h65, hds⟩, h24, h25, h26, h193, h194, h195⟩ h28 (by rw [hv]; exact h29) hb hc hK
  · have hb' : (r.to == who) = false := by simp [ha]
    (conv => arg 4; whnf)
    refine fw_region_lit rfl ?_
    simp [go_sem, opsF, opF, upF, Region.wanted, Fr.ev, Fr.put, thenE, inBlockE, Oper.semAt, yieldF, h5, h6, h8, h15, h24, h25, h26, h28, h29, h63, h64, h65, h193, h194, h195, x1, hb']
    refine on_kf hK11 [(5, .int .i64 N), (6, .pointer (some ⟨fb, 0, none⟩)), (8, ov), (15, .int .i64 id), (24, .int .i64 who), (25, pv), (26, .int .i64 c), (28, .pointer (some ⟨bx, 0, none⟩)), (29, .int .i64 0), (63, rv), (64, .int .i64 (m : Int)), (65, .int .i64 (k : Int)), (193, ov), (194, .int .i64 (n : Int)), (195, .int .i64 (i : Int)), (225, .bool false)] (by simp [h5, h6, h8, h15, h24, h25, h26, h28, h29, h63, h64, h65, h193, h194, h195]) hds ?_
    clear hK11 h5 h6 h8 h15 h24 h25 h26 h28 h29 h63 h64 h65 h193 h194 h195 hds; intro s hs hds
    obtain ⟨h5, h6, h8, h15, h24, h25, h26, h28, h29, h63, h64, h65, h193, h194, h195, h225⟩ := facts16 hs; clear hs
    refine at_false 225 rfl h225 ?_
    refine at_skip rfl ?_
    simp only [inBlockE, thenE]
    refine on_kf hK10 [(5, .int .i64 N), (6, .pointer (some ⟨fb, 0, none⟩)), (8, ov), (15, .int .i64 id), (24, .int .i64 who), (25, pv), (26, .int .i64 c), (28, .pointer (some ⟨bx, 0, none⟩)), (29, .int .i64 0), (63, rv), (64, .int .i64 (m : Int)), (65, .int .i64 (k : Int)), (193, ov), (194, .int .i64 (n : Int)), (195, .int .i64 (i : Int)), (225, .bool false)] (by simp [h5, h6, h8, h15, h24, h25, h26, h28, h29, h63, h64, h65, h193, h194, h195, h225]) hds ?_
    clear hK10 h5 h6 h8 h15 h24 h25 h26 h28 h29 h63 h64 h65 h193 h194 h195 h225 hds; intro s hs hds
    obtain ⟨h5, h6, h8, h15, h24, h25, h26, h28, h29, h63, h64, h65, h193, h194, h195, h225⟩ := facts16 hs; clear hs
    have hv : isOf r who = 0 := by simp [isOf, ha]
    exact segI4 s w K Q N fb ov rv id m k who pv c n i bx r R ⟨⟨h5, h6, h8, h15, h63, h64, h65, hds⟩, h24, h25, h26, h193, h194, h195⟩ h28 (by rw [hv]; exact h29) hb hc hK
end Go.Proofs.Ytiejaopidkghdaa
