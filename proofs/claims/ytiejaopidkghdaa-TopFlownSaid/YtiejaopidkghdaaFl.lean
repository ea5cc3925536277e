/- Asking, as the law does it: the own list. -/
import Derived.Test.YtiejaopidkghdaaFk
namespace Go.Proofs.Ytiejaopidkghdaa
set_option linter.unusedSimpArgs false
set_option linter.unusedVariables false
open Go.RowKit Go.Lf

/-- What holds of the new own list in the middle of its statement. -/
structure JC (s0 : Fr) (w0 : World) (l : List Rq) (to h now : Int) (L : Nat → Bool) (s : Fr) (w : World) : Prop where
  keep : ∀ t, t < 98 → t ≠ 8 → s.t t = s0.t t
  ds : s.ds = s0.ds
  nw : New w0 w
  k8 : L 11 = false → s.t 8 = s0.t 8
  v0 : L 0 = true → s.t 98 = s0.t 8
  v1 : L 1 = true → L 10 = false → Row w 31 5 (s.t 99) l.length (cellsOf l) ∧ ∀ k, (s.t 99).ownBlock = some k → w0.heap.size ≤ k
  v2 : L 2 = true → s.t 100 = s0.t 8
  v3 : L 3 = true → s.t 101 = .int .i64 (l.length : Int)
  v4 : L 4 = true → s.t 102 = .int .i64 ((l.length : Int) + 1)
  v5 : L 5 = true → s.t 103 = .int .i64 to
  v6 : L 6 = true → s.t 104 = .int .i64 h
  v7 : L 7 = true → s.t 105 = .int .i64 now
  v8 : L 8 = true → s.t 106 = .agg #[.int .i64 ((l.length : Int) + 1), .int .i64 to, .int .i64 h, .int .i64 now, .bool true]
  v9 : L 9 = true → L 10 = false → ∃ g, s.t 107 = .slice (some ⟨g, 0, none⟩) 1 1 ∧ Blk w g #[.int .i64 ((l.length : Int) + 1), .int .i64 to, .int .i64 h, .int .i64 now, .bool true] 31
  v10 : L 10 = true → Row w 31 5 (s.t 108) (l.length + 1) (cellsOf (l ++ [⟨(l.length : Int) + 1, to, h, now, true⟩])) ∧ ∀ k, (s.t 108).ownBlock = some k → w0.heap.size ≤ k
  v11 : L 11 = true → s.t 8 = s.t 108
  c10 : L 10 = true → L 1 = true ∧ L 9 = true
  c11 : L 11 = true → ∀ j, j < 11 → L j = true

theorem opF_append {P : Program} {ro : Option Nat} {next : Fr → World → Prop} {o : Oper} {s : Fr} {w : World} {x y : Operand} {t : TypeId} (ho : o.op = .call { callee := .builtin .append, args := #[x, y], argTypes := #[t, t] }) {v u : Value} (hx : s.ev x = v) (hy : s.ev y = u) {v' : Value} {w' : World}
    (hrun : (Builtin.append_ #[t, t] o.type #[v, u]).run P w = .ok v' w') (h : next (s.put o.dst v') w') : opF P ro o s w next := by
  unfold opF
  rw [semAt_of (by rw [ho]; intro c h; cases h)]
  have : (execOp s.ev o).run P w = .ok (.value v') w' := by
    unfold execOp
    simp only [ho, resolve, invoke, Sem.run_bind, Sem.run_pure, Result.andThen_ok]
    have : (#[x, y] : Array Operand).map s.ev = #[v, u] := by simp [hx, hy]
    rw [this]
    simp [builtin, Sem.run_bind, hrun, Result.andThen]
  rw [this]
  exact h

def dstC : Nat → Nat
  | 0 => 98
  | 1 => 99
  | 2 => 100
  | 3 => 101
  | 4 => 102
  | 5 => 103
  | 6 => 104
  | 7 => 105
  | 8 => 106
  | 9 => 107
  | 10 => 108
  | _ => 8

set_option maxHeartbeats 2000000 in
theorem seg15 (s0 : Fr) (w0 : World) (b1 b2 : Nat) (ov : Value) (l : List Rq) (to h now : Int) (K : Fr → World → Prop) (Q : Exit → Fr → World → Prop) (h8 : s0.t 8 = ov) (h12 : s0.t 12 = .pointer (some ⟨b1, 0, none⟩)) (h13 : s0.t 13 = .pointer (some ⟨b2, 0, none⟩)) (h14 : s0.t 14 = .int .i64 now)
    (hb1 : Blk w0 b1 #[.int .i64 to] 3) (hb2 : Blk w0 b2 #[.int .i64 h] 3) (hr : Row w0 31 5 ov l.length (cellsOf l)) (hl : l.length ≤ 65535)
    (hK : ∀ s w ov', (∀ t, t < 98 → t ≠ 8 → s.t t = s0.t t) → s.ds = s0.ds → New w0 w → s.t 8 = ov' → Row w 31 5 ov' (l.length + 1) (cellsOf (l ++ [⟨(l.length : Int) + 1, to, h, now, true⟩])) → (∀ k, ov'.ownBlock = some k → w0.heap.size ≤ k) → K s w) :
    FW Try.prog 303 none (sub body3 [0,1,1,1,1,0,0,1,1,0,1,0,1,1,1,0,0,1,1,0,0,1,0,1,1,1,1,1,1]) (thenE K Q) s0 w0 := by
  obtain ⟨ad, cp, hov⟩ : ∃ ad cp, ov = .slice ad l.length cp := by
    rcases hr.val with ⟨h, h', _⟩ | ⟨g, cap, h, _⟩
    · exact ⟨none, 0, by rw [h, h']⟩
    · exact ⟨_, cap, h⟩
  (conv => arg 4; whnf)
  refine fw_region_any mixed rfl (by kernel_rfl) (JC s0 w0 l to h now) ?_ ?_ ?_
  · refine ⟨fun _ _ _ => rfl, rfl, Frm.drew _ _ _, fun _ => rfl, ?_, ?_, ?_, ?_, ?_, ?_, ?_, ?_, ?_, ?_, ?_, ?_, ?_, ?_⟩
    all_goals intro h; cases h
  · have e4 : IntKind.i64.wrap ((l.length : Int) + 1) = (l.length : Int) + 1 := IntWalk.i64_in _ (by omega)
    intro L s w i o hJ hi hLi hdep
    have hi12 : i < 12 := by have := (Array.getElem?_eq_some_iff.1 hi).1; simpa using this
    have k12 : s.t 12 = .pointer (some ⟨b1, 0, none⟩) := (hJ.keep 12 (by omega) (by omega)).trans h12
    have k13 : s.t 13 = .pointer (some ⟨b2, 0, none⟩) := (hJ.keep 13 (by omega) (by omega)).trans h13
    have k14 : s.t 14 = .int .i64 now := (hJ.keep 14 (by omega) (by omega)).trans h14
    have c1 : w.cell? ⟨b1, 0, none⟩ = some (.int .i64 to) := (hb1.frm hJ.nw (fun h => h)).cell 0
    have c2 : w.cell? ⟨b2, 0, none⟩ = some (.int .i64 h) := (hb2.frm hJ.nw (fun h => h)).cell 0
    have n11 : i < 11 → L 11 = false := by
      intro hi
      cases h : L 11
      · rfl
      · have := hJ.c11 h i hi; rw [hLi] at this; cases this
    have n10 : (i = 1 ∨ i = 9) → L 10 = false := by
      intro hi
      cases h : L 10
      · rfl
      · have := hJ.c10 h
        rcases hi with rfl | rfl
        · rw [this.1] at hLi; cases hLi
        · rw [this.2] at hLi; cases hLi
    have quiet : ∀ (v : Value), (i ≠ 1 ∧ i ≠ 9 ∧ i ≠ 10 ∧ i ≠ 11) → (i = 0 → v = s0.t 8) → (i = 2 → v = s0.t 8) → (i = 3 → v = .int .i64 (l.length : Int)) → (i = 4 → v = .int .i64 ((l.length : Int) + 1)) → (i = 5 → v = .int .i64 to) → (i = 6 → v = .int .i64 h) → (i = 7 → v = .int .i64 now) →
        (i = 8 → v = .agg #[.int .i64 ((l.length : Int) + 1), .int .i64 to, .int .i64 h, .int .i64 now, .bool true]) → JC s0 w0 l to h now (also i L) (s.put (some (dstC i)) v) w := by
      intro v hne q0 q2 q3 q4 q5 q6 q7 q8
      have m11 := n11 (by omega)
      clear n11 n10
      obtain ⟨j0, j1, j2, j3, j4, j5, j6, j7, j8, j9, j10, j11, j12, j13, j14, j15, j16, j17⟩ := hJ
      obtain rfl | rfl | rfl | rfl | rfl | rfl | rfl | rfl : i = 0 ∨ i = 2 ∨ i = 3 ∨ i = 4 ∨ i = 5 ∨ i = 6 ∨ i = 7 ∨ i = 8 := by omega
      all_goals
        refine ⟨fun t ht h8 => ?_, j1, j2, ?_, ?_, ?_, ?_, ?_, ?_, ?_, ?_, ?_, ?_, ?_, ?_, ?_, ?_, ?_⟩
        · simp only [Fr.put, dstC]
          rw [if_neg (by omega)]
          exact j0 t ht h8
        all_goals simp [also, Fr.put, dstC, m11]
        all_goals first | assumption | exact j3 m11 | exact q0 rfl | exact q2 rfl | exact q3 rfl | exact q4 rfl | exact q5 rfl | exact q6 rfl | exact q7 rfl | exact q8 rfl
    obtain rfl | rfl | rfl | rfl | rfl | rfl | rfl | rfl | rfl | rfl | rfl | rfl : i = 0 ∨ i = 1 ∨ i = 2 ∨ i = 3 ∨ i = 4 ∨ i = 5 ∨ i = 6 ∨ i = 7 ∨ i = 8 ∨ i = 9 ∨ i = 10 ∨ i = 11 := by omega
    · -- 0
      change some _ = some o at hi
      cases hi
      simp [go_sem, opF, upF, Region.wanted, Fr.ev, Oper.semAt, yieldF]
      exact quiet _ (by simp) (fun _ => hJ.k8 (n11 (by omega))) (by simp) (by simp) (by simp) (by simp) (by simp) (by simp) (by simp)
    · -- 1
      change some _ = some o at hi
      cases hi
      have q0 : s.t 98 = ov := (hJ.v0 (hdep ⟨0, .data⟩ (by simp) rfl)).trans h8
      simp [go_sem, opF, upF, Region.wanted, Fr.ev, Oper.semAt, yieldF, q0]
      have hrw := hr.frm hJ.nw (fun _ _ h => h)
      refine (clone_any ov l w hrw (by omega)).on ?_
      rintro v w1 ⟨r1, r2, r3⟩
      have m10 := n10 (.inl rfl)
      have m11 := n11 (by omega)
      have hsz := hJ.nw.size
      clear quiet n11 n10
      obtain ⟨j0, j1, j2, j3, j4, j5, j6, j7, j8, j9, j10, j11, j12, j13, j14, j15, j16, j17⟩ := hJ
      refine ⟨fun t ht h8 => ?_, j1, New.trans j2 r2, ?_, ?_, ?_, ?_, ?_, ?_, ?_, ?_, ?_, ?_, ?_, ?_, ?_, ?_, ?_⟩
      · simp only [Fr.put]
        rw [if_neg (by omega)]
        exact j0 t ht h8
      all_goals simp [also, Fr.put, m11, m10]
      all_goals first | assumption | exact j3 m11 | skip
      · exact ⟨r1, fun k hk => by have := (r3 k hk).1; omega⟩
      · intro h9
        obtain ⟨g, g1, g2⟩ := j13 h9 m10
        exact ⟨g, g1, g2.frm r2 (fun h => h)⟩
    · -- 2
      change some _ = some o at hi
      cases hi
      simp [go_sem, opF, upF, Region.wanted, Fr.ev, Oper.semAt, yieldF]
      exact quiet _ (by simp) (by simp) (fun _ => hJ.k8 (n11 (by omega))) (by simp) (by simp) (by simp) (by simp) (by simp) (by simp)
    · -- 3
      change some _ = some o at hi
      cases hi
      have q2 : s.t 100 = .slice ad l.length cp := ((hJ.v2 (hdep ⟨2, .data⟩ (by simp) rfl)).trans h8).trans hov
      simp [go_sem, opF, upF, Region.wanted, Fr.ev, Oper.semAt, yieldF, q2]
      exact quiet _ (by simp) (by simp) (by simp) (by simp) (by simp) (by simp) (by simp) (by simp) (by simp)
    · -- 4
      change some _ = some o at hi
      cases hi
      have q3 := hJ.v3 (hdep ⟨3, .data⟩ (by simp) rfl)
      simp [go_sem, opF, upF, Region.wanted, Fr.ev, Oper.semAt, yieldF, q3, e4]
      exact quiet _ (by simp) (by simp) (by simp) (by simp) (by simp) (by simp) (by simp) (by simp) (by simp)
    · -- 5
      change some _ = some o at hi
      cases hi
      simp [go_sem, opF, upF, Region.wanted, Fr.ev, Oper.semAt, yieldF, k12, c1]
      exact quiet _ (by simp) (by simp) (by simp) (by simp) (by simp) (by simp) (by simp) (by simp) (by simp)
    · -- 6
      change some _ = some o at hi
      cases hi
      simp [go_sem, opF, upF, Region.wanted, Fr.ev, Oper.semAt, yieldF, k13, c2]
      exact quiet _ (by simp) (by simp) (by simp) (by simp) (by simp) (by simp) (by simp) (by simp) (by simp)
    · -- 7
      change some _ = some o at hi
      cases hi
      simp [go_sem, opF, upF, Region.wanted, Fr.ev, Oper.semAt, yieldF, k14]
      exact quiet _ (by simp) (by simp) (by simp) (by simp) (by simp) (by simp) (by simp) (by simp) (by simp)
    · -- 8
      change some _ = some o at hi
      cases hi
      have q4 := hJ.v4 (hdep ⟨4, .data⟩ (by simp) rfl)
      have q5 := hJ.v5 (hdep ⟨5, .data⟩ (by simp) rfl)
      have q6 := hJ.v6 (hdep ⟨6, .data⟩ (by simp) rfl)
      have q7 := hJ.v7 (hdep ⟨7, .data⟩ (by simp) rfl)
      simp [go_sem, opF, upF, Region.wanted, Fr.ev, Oper.semAt, yieldF, q4, q5, q6, q7]
      exact quiet _ (by simp) (by simp) (by simp) (by simp) (by simp) (by simp) (by simp) (by simp) (by simp)
    · -- 9
      change some _ = some o at hi
      cases hi
      have q8 := hJ.v8 (hdep ⟨8, .data⟩ (by simp) rfl)
      simp [go_sem, opF, upF, Region.wanted, Fr.ev, Oper.semAt, yieldF, q8]
      have m10 := n10 (.inr rfl)
      have m11 := n11 (by omega)
      clear quiet n11 n10
      have hA := Frm.alloc (fun _ => False) w (.cells #[.int .i64 ((l.length : Int) + 1), .int .i64 to, .int .i64 h, .int .i64 now, .bool true] 31)
      obtain ⟨j0, j1, j2, j3, j4, j5, j6, j7, j8, j9, j10, j11, j12, j13, j14, j15, j16, j17⟩ := hJ
      refine ⟨fun t ht h8 => ?_, j1, New.trans j2 hA, ?_, ?_, ?_, ?_, ?_, ?_, ?_, ?_, ?_, ?_, ?_, ?_, ?_, ?_, ?_⟩
      · simp only [Fr.put]
        rw [if_neg (by omega)]
        exact j0 t ht h8
      all_goals simp [also, Fr.put, m11, m10]
      all_goals first | assumption | exact j3 m11 | skip
      · intro h1
        obtain ⟨r1, r2⟩ := j5 h1 m10
        exact ⟨r1.frm hA (fun _ _ h => h), r2⟩
      · exact Blk.new w _ 31
    · -- 10
      change some _ = some o at hi
      cases hi
      have l1 := hdep ⟨1, .data⟩ (by simp) rfl
      have l9 := hdep ⟨9, .data⟩ (by simp) rfl
      have m11 := n11 (by omega)
      clear quiet n11 n10
      obtain ⟨r1, r2⟩ := hJ.v1 l1 hLi
      obtain ⟨g, g1, g2⟩ := hJ.v9 l9 hLi
      obtain ⟨v', w1, hap, hrow1, hfr1, _, hown1⟩ := r1.append (P := Try.prog) (t := 27) (ty := 27) Try.underlying27 info31 rfl (by decide) ⟨g, 0, none⟩ 1 1 [.int .i64 ((l.length : Int) + 1), .int .i64 to, .int .i64 h, .int .i64 now, .bool true] rfl
        (by
          intro j u hu
          have e : (⟨g, 0, none⟩ : Addr).add j = ⟨g, j, none⟩ := by unfold Addr.add; split <;> simp_all
          rw [e, g2.cell j]
          simpa using hu) (by simp [Value.oneCell']) (by unfold maxLen; omega) (by omega)
      rw [if_pos (by simp [Region.wanted])]
      refine opF_append rfl (v := s.t 99) (u := .slice (some ⟨g, 0, none⟩) 1 1) (by simp [Fr.ev]) (by simp [Fr.ev, g1]) hap ?_
      show JC s0 w0 l to h now (also 10 L) (s.put (some 108) v') w1
      have hsz := hJ.nw.size
      obtain ⟨j0, j1, j2, j3, j4, j5, j6, j7, j8, j9, j10, j11, j12, j13, j14, j15, j16, j17⟩ := hJ
      refine ⟨fun t ht h8 => ?_, j1, Frm.trans j2 hfr1 (fun b hb hk => by have := r2 b hk; omega), ?_, ?_, ?_, ?_, ?_, ?_, ?_, ?_, ?_, ?_, ?_, ?_, ?_, ?_, ?_⟩
      · simp only [Fr.put]
        rw [if_neg (by omega)]
        exact j0 t ht h8
      all_goals simp [also, Fr.put, m11, l1, l9]
      all_goals first | assumption | exact j3 m11 | skip
      · refine ⟨?_, fun k hk => ?_⟩
        · have : cellsOf (l ++ [⟨(l.length : Int) + 1, to, h, now, true⟩]) = cellsOf l ++ [.int .i64 ((l.length : Int) + 1), .int .i64 to, .int .i64 h, .int .i64 now, .bool true] := by simp [cellsOf, Rq.enc]
          rw [this]
          exact hrow1
        · rcases hown1 k hk with hk | ⟨hk, _⟩
          · exact r2 k hk
          · omega
    · -- 11
      change some _ = some o at hi
      cases hi
      simp [go_sem, opF, upF, Region.wanted, Fr.ev, Oper.semAt, yieldF]
      have hall : ∀ j, j < 11 → L j = true := by
        intro j hj
        obtain rfl | rfl | rfl | rfl | rfl | rfl | rfl | rfl | rfl | rfl | rfl : j = 0 ∨ j = 1 ∨ j = 2 ∨ j = 3 ∨ j = 4 ∨ j = 5 ∨ j = 6 ∨ j = 7 ∨ j = 8 ∨ j = 9 ∨ j = 10 := by omega
        all_goals exact hdep ⟨_, .phase⟩ (by simp) rfl
      have l10 := hall 10 (by omega)
      clear quiet n11 n10
      obtain ⟨j0, j1, j2, j3, j4, j5, j6, j7, j8, j9, j10, j11, j12, j13, j14, j15, j16, j17⟩ := hJ
      refine ⟨fun t ht h8 => ?_, j1, j2, ?_, ?_, ?_, ?_, ?_, ?_, ?_, ?_, ?_, ?_, ?_, ?_, ?_, ?_, ?_⟩
      · simp only [Fr.put]
        rw [if_neg (by omega)]
        exact j0 t ht h8
      all_goals simp [also, Fr.put]
      all_goals first | assumption | skip
      · intro j hj
        exact .inr (hall j hj)
  · intro L s w hJ hall
    obtain ⟨r1, r2⟩ := hJ.v10 (hall 10 (by simp))
    have h11 := hJ.v11 (hall 11 (by simp))
    exact hK s w (s.t 108) hJ.keep hJ.ds hJ.nw h11 r1 r2
end Go.Proofs.Ytiejaopidkghdaa
