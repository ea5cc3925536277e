/- The law's round: provider, height and clock. -/
import Derived.Test.YtiejaopidkghdaaFd
import Derived.Test.YtiejaopidkghdaaFi
namespace Go.Proofs.Ytiejaopidkghdaa
set_option linter.unusedSimpArgs false
set_option linter.unusedVariables false
open Go.RowKit Go.Lf

noncomputable def body3 : Code := Try.f3.body.getD .skip

def valB (bx : Nat) (N k y z : Int) : Nat → Option Value
  | 0 => some (.pointer (some ⟨bx, 1, none⟩))
  | 1 => some (.int .u8 y)
  | 2 => some (.int .i64 y)
  | 3 => some (.int .i64 N)
  | 4 => some (.int .i64 (N + 2))
  | 5 => some (.int .i64 (y % (N + 2)))
  | 6 => some (.int .i64 (y % (N + 2) - 1))
  | 7 => some (.pointer (some ⟨bx, 2, none⟩))
  | 8 => some (.int .u8 z)
  | 9 => some (.int .u8 (z % 6))
  | 10 => some (.int .i64 (z % 6))
  | 11 => some (.int .i64 k)
  | 12 => some (.int .i64 (3 * k))
  | 13 => some (.int .i64 (3 * k - 2))
  | 18 => some (.int .i64 (3 * k - 2))
  | _ => none

def dstB : Nat → Nat
  | 0 => 70
  | 1 => 71
  | 2 => 72
  | 3 => 73
  | 4 => 74
  | 5 => 75
  | 6 => 76
  | 7 => 77
  | 8 => 78
  | 9 => 79
  | 10 => 80
  | 11 => 81
  | 12 => 82
  | 13 => 83
  | 18 => 14
  | _ => 0

/-- What holds of provider, height and clock in the middle of their statement. -/
structure JB (s0 : Fr) (w0 : World) (bx : Nat) (N k y z : Int) (L : Nat → Bool) (s : Fr) (w : World) : Prop where
  val : ∀ i v, valB bx N k y z i = some v → L i = true → s.t (dstB i) = v
  keep : ∀ t, t < 70 → t ≠ 12 → t ≠ 13 → t ≠ 14 → s.t t = s0.t t
  ds : s.ds = s0.ds
  nw : New w0 w
  a : L 14 = true → ∃ b, w0.heap.size ≤ b ∧ s.t 12 = .pointer (some ⟨b, 0, none⟩) ∧ Blk w b #[.int .i64 (if L 16 = true then y % (N + 2) - 1 else 0)] 3
  b : L 15 = true → ∃ b, w0.heap.size ≤ b ∧ s.t 13 = .pointer (some ⟨b, 0, none⟩) ∧ Blk w b #[.int .i64 (if L 17 = true then z % 6 else 0)] 3
  ab : L 14 = true → L 15 = true → s.t 12 ≠ s.t 13
  c16 : L 16 = true → L 14 = true ∧ L 15 = true
  c17 : L 17 = true → L 15 = true

theorem dstB_inj {i j : Nat} {bx : Nat} {N k y z : Int} {u v : Value} (hi : valB bx N k y z i = some u) (hj : valB bx N k y z j = some v) (h : dstB i = dstB j) : i = j := by
  unfold valB at hi hj
  split at hi <;> first | (cases hi; done) | (split at hj <;> first | (cases hj; done) | rfl | (simp [dstB] at h))

theorem dstB_not {i : Nat} {bx : Nat} {N k y z : Int} {u : Value} (hi : valB bx N k y z i = some u) : (70 ≤ dstB i ∨ dstB i = 14) ∧ i ≠ 14 ∧ i ≠ 15 ∧ i ≠ 16 ∧ i ≠ 17 := by
  unfold valB at hi
  split at hi <;> first | (cases hi; done) | (simp [dstB])

theorem JB.quiet {s0 s : Fr} {w0 w : World} {bx : Nat} {N k y z : Int} {L : Nat → Bool} (h : JB s0 w0 bx N k y z L s w) (i d : Nat) (v : Value) (hi : valB bx N k y z i = some v) (hd : dstB i = d) :
    JB s0 w0 bx N k y z (also i L) (s.put (some d) v) w := by
  unfold also
  subst hd
  obtain ⟨hn, n14, n15, n16, n17⟩ := dstB_not hi
  have m14 : ¬ 14 = i := fun e => n14 e.symm
  have m15 : ¬ 15 = i := fun e => n15 e.symm
  have m16 : ¬ 16 = i := fun e => n16 e.symm
  have m17 : ¬ 17 = i := fun e => n17 e.symm
  have p12 : ¬ 12 = dstB i := by omega
  have p13 : ¬ 13 = dstB i := by omega
  refine ⟨?_, ?_, h.ds, h.nw, ?_, ?_, ?_, ?_, ?_⟩
  · intro j u hj hL
    dsimp only [Fr.put]
    by_cases hji : j = i
    · subst hji
      rw [if_pos rfl]
      rw [hi] at hj
      exact Option.some.inj hj
    · rw [if_neg hji] at hL
      rw [if_neg (fun e => hji (dstB_inj hj hi e))]
      exact h.val j u hj hL
  · intro t ht h1 h2 h3
    dsimp only [Fr.put]
    rw [if_neg (by omega)]
    exact h.keep t ht h1 h2 h3
  · dsimp only [Fr.put]
    rw [if_neg m14, if_neg m16, if_neg p12]
    exact h.a
  · dsimp only [Fr.put]
    rw [if_neg m15, if_neg m17, if_neg p13]
    exact h.b
  · dsimp only [Fr.put]
    rw [if_neg m14, if_neg m15, if_neg p12, if_neg p13]
    exact h.ab
  · rw [if_neg m16, if_neg m14, if_neg m15]
    exact h.c16
  · rw [if_neg m17, if_neg m15]
    exact h.c17

/-- A step of the four that touch memory. -/
theorem JB.val_put {s0 s : Fr} {w0 w : World} {bx : Nat} {N k y z : Int} {L : Nat → Bool} (h : JB s0 w0 bx N k y z L s w) (i : Nat) (hi : 14 ≤ i ∧ i ≤ 17) (d : Option Tmp) (hd : d = none ∨ d = some 12 ∨ d = some 13) (v : Value) :
    (∀ j u, valB bx N k y z j = some u → also i L j = true → (s.put d v).t (dstB j) = u) ∧ (∀ t, t < 70 → t ≠ 12 → t ≠ 13 → t ≠ 14 → (s.put d v).t t = s0.t t) ∧ (s.put d v).ds = s0.ds := by
  refine ⟨fun j u hj hL => ?_, fun t ht h1 h2 h3 => ?_, ?_⟩
  · obtain ⟨hn, n14, n15, n16, n17⟩ := dstB_not hj
    unfold also at hL
    rw [if_neg (by omega)] at hL
    have := h.val j u hj hL
    rcases hd with rfl | rfl | rfl
    · exact this
    · dsimp only [Fr.put]; rw [if_neg (by omega)]; exact this
    · dsimp only [Fr.put]; rw [if_neg (by omega)]; exact this
  · have := h.keep t ht h1 h2 h3
    rcases hd with rfl | rfl | rfl
    · exact this
    · dsimp only [Fr.put]; rw [if_neg h1]; exact this
    · dsimp only [Fr.put]; rw [if_neg h2]; exact this
  · rcases hd with rfl | rfl | rfl <;> exact h.ds

theorem seg10 (s0 : Fr) (w0 : World) (bx : Nat) (N k x y z : Int) (K : Fr → World → Prop) (Q : Exit → Fr → World → Prop) (h5 : s0.t 5 = .int .i64 N) (h10 : s0.t 10 = .int .i64 k) (h11 : s0.t 11 = .pointer (some ⟨bx, 0, none⟩))
    (hb : Blk w0 bx #[.int .u8 x, .int .u8 y, .int .u8 z] 28) (hN : 1 ≤ N ∧ N ≤ 16) (hk : 0 ≤ k ∧ k ≤ 200) (hy : 0 ≤ y ∧ y ≤ 255) (hz : 0 ≤ z ∧ z ≤ 255)
    (hK : ∀ s w b1 b2, (∀ t, t < 70 → t ≠ 12 → t ≠ 13 → t ≠ 14 → s.t t = s0.t t) → s.ds = s0.ds → New w0 w → w0.heap.size ≤ b1 → w0.heap.size ≤ b2 → s.t 12 = .pointer (some ⟨b1, 0, none⟩) → s.t 13 = .pointer (some ⟨b2, 0, none⟩) → s.t 14 = .int .i64 (3 * k - 2) →
      Blk w b1 #[.int .i64 (y % (N + 2) - 1)] 3 → Blk w b2 #[.int .i64 (z % 6)] 3 → K s w) :
    FW Try.prog 303 none (sub body3 [0,1,0,0,1,1,0,0,1,0,1,1,1,1,1,1]) (thenE K Q) s0 w0 := by
  (conv => arg 4; whnf)
  refine fw_region_any mixed rfl (by kernel_rfl) (JB s0 w0 bx N k y z) ⟨?_, fun _ _ _ _ _ => rfl, rfl, Frm.drew _ _ _, ?_, ?_, ?_, ?_, ?_⟩ ?_ ?_
  · intro i v _ h; cases h
  · intro h; cases h
  · intro h; cases h
  · intro h; cases h
  · intro h; cases h
  · intro h; cases h
  · have e2 : IntKind.i64.wrap y = y := IntWalk.i64_in _ (by omega)
    have e4 : IntKind.i64.wrap (N + 2) = N + 2 := IntWalk.i64_in _ (by omega)
    have e5 : y.tmod (N + 2) = y % (N + 2) := Int.tmod_eq_emod_of_nonneg (by omega)
    have e5b : ¬ N + 2 = 0 := by omega
    have b5 : 0 ≤ y % (N + 2) ∧ y % (N + 2) < N + 2 := ⟨Int.emod_nonneg _ (by omega), Int.emod_lt_of_pos _ (by omega)⟩
    have e6 : IntKind.i64.wrap (y % (N + 2) - 1) = y % (N + 2) - 1 := IntWalk.i64_in _ (by omega)
    have e9 : z.tmod 6 = z % 6 := Int.tmod_eq_emod_of_nonneg (by omega)
    have e10 : IntKind.i64.wrap (z % 6) = z % 6 := IntWalk.i64_in _ (by omega)
    have e12 : IntKind.i64.wrap (3 * k) = 3 * k := IntWalk.i64_in _ (by omega)
    have e13 : IntKind.i64.wrap (3 * k - 2) = 3 * k - 2 := IntWalk.i64_in _ (by omega)
    intro L s w i o hJ hi hLi hdep
    have hi19 : i < 19 := by have := (Array.getElem?_eq_some_iff.1 hi).1; simpa using this
    have k5 : s.t 5 = .int .i64 N := (hJ.keep 5 (by omega) (by omega) (by omega) (by omega)).trans h5
    have k10 : s.t 10 = .int .i64 k := (hJ.keep 10 (by omega) (by omega) (by omega) (by omega)).trans h10
    have k11 : s.t 11 = .pointer (some ⟨bx, 0, none⟩) := (hJ.keep 11 (by omega) (by omega) (by omega) (by omega)).trans h11
    have hbw := hb.frm hJ.nw (fun h => h)
    have c1 : w.cell? ⟨bx, 1, none⟩ = some (.int .u8 y) := hbw.cell 1
    have c2 : w.cell? ⟨bx, 2, none⟩ = some (.int .u8 z) := hbw.cell 2
    obtain rfl | rfl | rfl | rfl | rfl | rfl | rfl | rfl | rfl | rfl | rfl | rfl | rfl | rfl | rfl | rfl | rfl | rfl | rfl : i = 0 ∨ i = 1 ∨ i = 2 ∨ i = 3 ∨ i = 4 ∨ i = 5 ∨ i = 6 ∨ i = 7 ∨ i = 8 ∨ i = 9 ∨ i = 10 ∨ i = 11 ∨ i = 12 ∨ i = 13 ∨ i = 14 ∨ i = 15 ∨ i = 16 ∨ i = 17 ∨ i = 18 := by omega
    · -- 0
      change some _ = some o at hi
      cases hi
      simp [go_sem, opF, upF, Region.wanted, Fr.ev, Oper.semAt, yieldF, k11]
      exact hJ.quiet 0 70 _ rfl rfl
    · -- 1
      change some _ = some o at hi
      cases hi
      have q0 : s.t 70 = .pointer (some ⟨bx, 1, none⟩) := hJ.val 0 _ rfl (hdep ⟨0, .data⟩ (by simp) rfl)
      simp [go_sem, opF, upF, Region.wanted, Fr.ev, Oper.semAt, yieldF, q0, c1]
      exact hJ.quiet 1 71 _ rfl rfl
    · -- 2
      change some _ = some o at hi
      cases hi
      have q1 : s.t 71 = .int .u8 y := hJ.val 1 _ rfl (hdep ⟨1, .data⟩ (by simp) rfl)
      simp [go_sem, opF, upF, Region.wanted, Fr.ev, Oper.semAt, yieldF, q1, e2]
      exact hJ.quiet 2 72 _ rfl rfl
    · -- 3
      change some _ = some o at hi
      cases hi
      simp [go_sem, opF, upF, Region.wanted, Fr.ev, Oper.semAt, yieldF, k5]
      exact hJ.quiet 3 73 _ rfl rfl
    · -- 4
      change some _ = some o at hi
      cases hi
      have q3 : s.t 73 = .int .i64 N := hJ.val 3 _ rfl (hdep ⟨3, .data⟩ (by simp) rfl)
      simp [go_sem, opF, upF, Region.wanted, Fr.ev, Oper.semAt, yieldF, q3, e4]
      exact hJ.quiet 4 74 _ rfl rfl
    · -- 5
      change some _ = some o at hi
      cases hi
      have q2 : s.t 72 = .int .i64 y := hJ.val 2 _ rfl (hdep ⟨2, .data⟩ (by simp) rfl)
      have q4 : s.t 74 = .int .i64 (N + 2) := hJ.val 4 _ rfl (hdep ⟨4, .data⟩ (by simp) rfl)
      simp [go_sem, opF, upF, Region.wanted, Fr.ev, Oper.semAt, yieldF, q2, q4, e5, e5b]
      exact hJ.quiet 5 75 _ rfl rfl
    · -- 6
      change some _ = some o at hi
      cases hi
      have q5 : s.t 75 = .int .i64 (y % (N + 2)) := hJ.val 5 _ rfl (hdep ⟨5, .data⟩ (by simp) rfl)
      simp [go_sem, opF, upF, Region.wanted, Fr.ev, Oper.semAt, yieldF, q5, e6]
      exact hJ.quiet 6 76 _ rfl rfl
    · -- 7
      change some _ = some o at hi
      cases hi
      simp [go_sem, opF, upF, Region.wanted, Fr.ev, Oper.semAt, yieldF, k11]
      exact hJ.quiet 7 77 _ rfl rfl
    · -- 8
      change some _ = some o at hi
      cases hi
      have q7 : s.t 77 = .pointer (some ⟨bx, 2, none⟩) := hJ.val 7 _ rfl (hdep ⟨7, .data⟩ (by simp) rfl)
      simp [go_sem, opF, upF, Region.wanted, Fr.ev, Oper.semAt, yieldF, q7, c2]
      exact hJ.quiet 8 78 _ rfl rfl
    · -- 9
      change some _ = some o at hi
      cases hi
      have q8 : s.t 78 = .int .u8 z := hJ.val 8 _ rfl (hdep ⟨8, .data⟩ (by simp) rfl)
      simp [go_sem, opF, upF, Region.wanted, Fr.ev, Oper.semAt, yieldF, q8, e9]
      exact hJ.quiet 9 79 _ rfl rfl
    · -- 10
      change some _ = some o at hi
      cases hi
      have q9 : s.t 79 = .int .u8 (z % 6) := hJ.val 9 _ rfl (hdep ⟨9, .data⟩ (by simp) rfl)
      simp [go_sem, opF, upF, Region.wanted, Fr.ev, Oper.semAt, yieldF, q9, e10]
      exact hJ.quiet 10 80 _ rfl rfl
    · -- 11
      change some _ = some o at hi
      cases hi
      simp [go_sem, opF, upF, Region.wanted, Fr.ev, Oper.semAt, yieldF, k10]
      exact hJ.quiet 11 81 _ rfl rfl
    · -- 12
      change some _ = some o at hi
      cases hi
      have q11 : s.t 81 = .int .i64 k := hJ.val 11 _ rfl (hdep ⟨11, .data⟩ (by simp) rfl)
      simp [go_sem, opF, upF, Region.wanted, Fr.ev, Oper.semAt, yieldF, q11, e12]
      exact hJ.quiet 12 82 _ rfl rfl
    · -- 13
      change some _ = some o at hi
      cases hi
      have q12 : s.t 82 = .int .i64 (3 * k) := hJ.val 12 _ rfl (hdep ⟨12, .data⟩ (by simp) rfl)
      simp [go_sem, opF, upF, Region.wanted, Fr.ev, Oper.semAt, yieldF, q12, e13]
      exact hJ.quiet 13 83 _ rfl rfl
    · -- 14
      change some _ = some o at hi
      cases hi
      simp [go_sem, opF, upF, Region.wanted, Fr.ev, Oper.semAt, yieldF]
      have hA := Frm.alloc (fun _ => False) w (.cells #[.int .i64 0] 3)
      obtain ⟨v1, v2, v3⟩ := hJ.val_put 14 (by omega) (some 12) (.inr (.inl rfl)) (.pointer (some ⟨w.heap.size, 0, none⟩))
      have n16 : L 16 = false := by
        cases h : L 16
        · rfl
        · have := (hJ.c16 h).1; rw [hLi] at this; cases this
      refine ⟨v1, v2, v3, Frm.trans hJ.nw hA (fun _ _ h => h), ?_, ?_, ?_, ?_, ?_⟩
      · intro _
        refine ⟨w.heap.size, hJ.nw.size, rfl, ?_⟩
        have : also 14 L 16 = false := n16
        rw [this]
        exact Blk.new w _ 3
      · intro h
        obtain ⟨b, g, t, m⟩ := hJ.b h
        exact ⟨b, g, t, m.frm hA (fun h => h)⟩
      · intro _ h
        obtain ⟨b, g, t, m⟩ := hJ.b h
        show Value.pointer (some ⟨w.heap.size, 0, none⟩) ≠ s.t 13
        rw [t]
        intro e
        cases e
        exact absurd m.lt (Nat.lt_irrefl _)
      · intro h
        have h' : L 16 = true := h
        rw [n16] at h'
        cases h'
      · exact hJ.c17
    · -- 15
      change some _ = some o at hi
      cases hi
      simp [go_sem, opF, upF, Region.wanted, Fr.ev, Oper.semAt, yieldF]
      have hA := Frm.alloc (fun _ => False) w (.cells #[.int .i64 0] 3)
      obtain ⟨v1, v2, v3⟩ := hJ.val_put 15 (by omega) (some 13) (.inr (.inr rfl)) (.pointer (some ⟨w.heap.size, 0, none⟩))
      have n17 : L 17 = false := by
        cases h : L 17
        · rfl
        · have := hJ.c17 h; rw [hLi] at this; cases this
      have n16 : L 16 = false := by
        cases h : L 16
        · rfl
        · have := (hJ.c16 h).2; rw [hLi] at this; cases this
      refine ⟨v1, v2, v3, Frm.trans hJ.nw hA (fun _ _ h => h), ?_, ?_, ?_, ?_, ?_⟩
      · intro h
        obtain ⟨b, g, t, m⟩ := hJ.a h
        exact ⟨b, g, t, m.frm hA (fun h => h)⟩
      · intro _
        refine ⟨w.heap.size, hJ.nw.size, rfl, ?_⟩
        have : also 15 L 17 = false := n17
        rw [this]
        exact Blk.new w _ 3
      · intro h _
        obtain ⟨b, g, t, m⟩ := hJ.a h
        show s.t 12 ≠ Value.pointer (some ⟨w.heap.size, 0, none⟩)
        rw [t]
        intro e
        cases e
        exact absurd m.lt (Nat.lt_irrefl _)
      · intro h
        have h' : L 16 = true := h
        rw [n16] at h'
        cases h'
      · intro h
        have h' : L 17 = true := h
        rw [n17] at h'
        cases h'
    · -- 16
      change some _ = some o at hi
      cases hi
      have l14 : L 14 = true := hdep ⟨14, .data⟩ (by simp) rfl
      have l15 : L 15 = true := hdep ⟨15, .phase⟩ (by simp) rfl
      have q6 : s.t 76 = .int .i64 (y % (N + 2) - 1) := hJ.val 6 _ rfl (hdep ⟨6, .data⟩ (by simp) rfl)
      obtain ⟨ba, ga, ta, ma⟩ := hJ.a l14
      obtain ⟨bb, gb, tb, mb⟩ := hJ.b l15
      have hne : ba ≠ bb := by
        intro e
        have := hJ.ab l14 l15
        rw [ta, tb, e] at this
        exact this rfl
      have y0 := ma.cell 0
      have yf := ma.frozen 0
      simp [go_sem, opF, upF, Region.wanted, Fr.ev, Oper.semAt, yieldF, q6, ta, y0, yf]
      have hset := Frm.setCell (S := fun b => b = ba) w ⟨ba, 0, none⟩ (.int .i64 (y % (N + 2) - 1)) rfl
      obtain ⟨v1, v2, v3⟩ := hJ.val_put 16 (by omega) none (.inl rfl) undef
      refine ⟨v1, v2, v3, Frm.trans hJ.nw hset (fun b hb h => by omega), ?_, ?_, ?_, ?_, ?_⟩
      · intro _
        exact ⟨ba, ga, ta, ma.set 0 _⟩
      · intro _
        exact ⟨bb, gb, tb, mb.frm hset (fun e => hne e.symm)⟩
      · exact hJ.ab
      · intro _; exact ⟨l14, l15⟩
      · exact hJ.c17
    · -- 17
      change some _ = some o at hi
      cases hi
      have l15 : L 15 = true := hdep ⟨15, .data⟩ (by simp) rfl
      have l16 : L 16 = true := hdep ⟨16, .chain⟩ (by simp) rfl
      have l14 : L 14 = true := (hJ.c16 l16).1
      have q10 : s.t 80 = .int .i64 (z % 6) := hJ.val 10 _ rfl (hdep ⟨10, .data⟩ (by simp) rfl)
      obtain ⟨ba, ga, ta, ma⟩ := hJ.a l14
      obtain ⟨bb, gb, tb, mb⟩ := hJ.b l15
      have hne : ba ≠ bb := by
        intro e
        have := hJ.ab l14 l15
        rw [ta, tb, e] at this
        exact this rfl
      have y0 := mb.cell 0
      have yf := mb.frozen 0
      simp [go_sem, opF, upF, Region.wanted, Fr.ev, Oper.semAt, yieldF, q10, tb, y0, yf]
      have hset := Frm.setCell (S := fun b => b = bb) w ⟨bb, 0, none⟩ (.int .i64 (z % 6)) rfl
      obtain ⟨v1, v2, v3⟩ := hJ.val_put 17 (by omega) none (.inl rfl) undef
      refine ⟨v1, v2, v3, Frm.trans hJ.nw hset (fun b hb h => by omega), ?_, ?_, ?_, ?_, ?_⟩
      · intro _
        exact ⟨ba, ga, ta, ma.frm hset hne⟩
      · intro _
        exact ⟨bb, gb, tb, mb.set 0 _⟩
      · exact hJ.ab
      · exact hJ.c16
      · intro _; exact l15
    · -- 18
      change some _ = some o at hi
      cases hi
      have q13 : s.t 83 = .int .i64 (3 * k - 2) := hJ.val 13 _ rfl (hdep ⟨13, .data⟩ (by simp) rfl)
      simp [go_sem, opF, upF, Region.wanted, Fr.ev, Oper.semAt, yieldF, q13]
      exact hJ.quiet 18 14 _ rfl rfl
  · intro L s w hJ hall
    obtain ⟨b1, g1, t1, m1⟩ := hJ.a (hall 14 (by simp))
    obtain ⟨b2, g2, t2, m2⟩ := hJ.b (hall 15 (by simp))
    rw [hall 16 (by simp)] at m1
    rw [hall 17 (by simp)] at m2
    exact hK s w b1 b2 hJ.keep hJ.ds hJ.nw g1 g2 t1 t2 (hJ.val 18 _ rfl (hall 18 (by simp))) m1 m2
end Go.Proofs.Ytiejaopidkghdaa
