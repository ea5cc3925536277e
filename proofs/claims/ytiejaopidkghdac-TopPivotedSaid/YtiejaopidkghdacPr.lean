/- The law's second part: its own way through the plan; how deep. -/
import Derived.Test.YtiejaopidkghdacPq
namespace Go.Proofs.Ytiejaopidkghdac
set_option linter.unusedSimpArgs false
set_option linter.unusedVariables false
open Go.RowKit Go.Lf

def PlI (w0 : World) (mb : Nat) (F : Value → Option Value) (pv : Value) (ps : List (Int × Int)) (hold : Int → Int → Bool) (low high : Int) (N : Nat) (m : Nat) (s : Fr) (w : World) : Prop :=
  ∃ (k : Nat) (sv av tv : Value), k ≤ N ∧ m = N - k ∧ TL w0 w mb F pv ps sv av tv (pst hold low high k).l (asksOf hold low high k) (trysOf hold low high k) ∧ s.ds = [] ∧
    s.t 11 = .int .i64 low ∧ s.t 12 = .int .i64 high ∧ s.t 15 = .int .i64 (pst hold low high k).base ∧ s.t 16 = sv ∧ s.t 29 = pv ∧ s.t 35 = .map (some mb) ∧ s.t 38 = av ∧ s.t 39 = .bool false ∧ s.t 40 = tv

set_option maxHeartbeats 4000000 in
theorem loop_plan (s : Fr) (w0 w : World) (K : Fr → World → Prop) (Q : Exit → Fr → World → Prop) (mb : Nat) (F : Value → Option Value) (pv : Value) (ps : List (Int × Int)) (hold : Int → Int → Bool) (low high : Int) (N : Nat) (g1 : 1 ≤ low) (g2 : low < high) (g3 : high ≤ 400)
    (hN : stp hold (pst hold low high N)) (hlt : ∀ k, k < N → ¬ stp hold (pst hold low high k)) (hNm : N ≤ 500000) (hF : HasP F hold (.bool true))
    (h0 : PlI w0 mb F pv ps hold low high N N s w)
    (hK : ∀ (s : Fr) (w : World) sv av tv l, TL w0 w mb F pv ps sv av tv l (asksOf hold low high N) (trysOf hold low high (N + 1)) → s.ds = [] → s.t 11 = .int .i64 low → s.t 12 = .int .i64 high → s.t 29 = pv → s.t 38 = av → s.t 39 = .bool (hold (pst hold low high N).base (topOf (pst hold low high N).l)) → s.t 40 = tv → K s w) :
    FW Try.prog 448 none (sub body3 [0,1,1,1,1,1,1,1,1,1,1,1,1,1,1,1]) (thenE K Q) s w := by
  refine at_block 11 rfl ?_
  refine at_loop rfl (PlI w0 mb F pv ps hold low high N) N h0 ?_
  clear h0 s w
  rintro m s w ⟨k, sv, av, tv, hk, rfl, hT, hds, h11, h12, h15, h16, h29, h35, h38, h39, h40⟩
  have hG := pst_good hold low high g1 g2 g3 hlt k hk
  have hstp : k < N → ¬ stp hold (pst hold low high k) := hlt k
  have hstN : k = N → stp hold (pst hold low high k) := fun e => e ▸ hN
  have hsucc : pst hold low high (k + 1) = nxt hold (pst hold low high k) := rfl
  have htr := trysOf_succ hold low high k
  have htl := trysOf_len hold low high k
  have hal := asksOf_len hold low high k
  have has : asksOf hold low high (k + 1) = if hold (pst hold low high k).base (topOf (pst hold low high k).l) = true then asksOf hold low high k else asksOf hold low high k ++ [midOf (pst hold low high k).base (topOf (pst hold low high k).l)] := rfl
  generalize hpk : pst hold low high k = p at *
  have hwt := hG.wf.top hG.ne
  have hwb := hG.wf.b1
  have hwl := hG.wf.len
  obtain ⟨g, cap, rfl, p1, p2, p3, p4⟩ : ∃ g cap, sv = .slice (some ⟨g, 0, none⟩) p.l.length cap ∧ 0 < p.l.length ∧ p.l.length ≤ cap ∧ cap ≤ 9223372036854775807 ∧ w.cell? ⟨g, p.l.length - 1, none⟩ = some (.int .i64 (topOf p.l)) := by
    rcases row_top hT.rs with ⟨h, _⟩ | h
    · exact absurd h hG.ne
    · exact h
  have d2 : IntKind.i64.wrap ((p.l.length : Int) - 1) = (p.l.length : Int) - 1 := IntWalk.i64_in _ (by omega)
  have d3 : 1 ≤ (p.l.length : Int) := by omega
  have d4 : ((p.l.length : Int) - 1).toNat = p.l.length - 1 := by omega
  have d5 : (p.l.length : Int) - 1 < (p.l.length : Int) := by omega
  have d6 : (p.l.length : Int) - 1 ≤ (cap : Int) := by omega
  obtain ⟨kl, hkey⟩ := spot_key (a := p.base) (b := topOf p.l) (by omega) (by omega)
  have hlook := hT.mp.look1 key39 Try.underlying40 (zero4 w) hkey
  rw [hF p.base (topOf p.l)] at hlook
  have hlook' : (Instr.lookup 40 (.map (some mb)) (spot p.base (topOf p.l)) false).run Try.prog w = .ok (.bool (hold p.base (topOf p.l))) w := by
    rw [hlook]
    by_cases hh : hold p.base (topOf p.l) = true
    · rw [if_pos hh, hh]
    · rw [if_neg hh]
      have : hold p.base (topOf p.l) = false := by simpa using hh
      rw [this]
  simp only [spot] at hlook'
  refine at_block 12 rfl ?_
  refine at_seq rfl fun K1 hK1 => ?_
  (conv => arg 4; whnf)
  refine fw_region_lit rfl ?_
  simp [go_sem, opsF, opF, upF, Region.wanted, Fr.ev, Fr.put, thenE, inBlockE, Oper.semAt, yieldF, h11, h12, h15, h16, h29, h35, h38, h39, h40, d2, d3, d4, d5, p4]
  refine on_kf hK1 [(11, _), (12, _), (15, _), (16, _), (29, _), (35, _), (38, _), (39, _), (40, _), (41, _)] (fa_cons h11 (fa_cons h12 (fa_cons h15 (fa_cons h16 (fa_cons h29 (fa_cons h35 (fa_cons h38 (fa_cons h39 (fa_cons h40 (fa_cons (by simp [h11, h12, h15, h16, h29, h35, h38, h39, h40, d2, d3, d4, d5, p4] <;> rfl) fa_nil)))))))))) hds ?_
  clear hK1 h11 h12 h15 h16 h29 h35 h38 h39 h40 hds; intro s hs hds
  obtain ⟨h11, h12, h15, h16, h29, h35, h38, h39, h40, h41⟩ := facts10 hs; clear hs
  refine at_seq rfl fun K2 hK2 => ?_
  (conv => arg 4; whnf)
  refine fw_region_lit rfl ?_
  simp [go_sem, opsF, opF, upF, Region.wanted, Fr.ev, Fr.put, thenE, inBlockE, Oper.semAt, yieldF, h11, h12, h15, h16, h29, h35, h38, h39, h40, h41, hlook']
  refine on_kf hK2 [(11, _), (12, _), (15, _), (16, _), (29, _), (35, _), (38, _), (39, _), (40, _), (41, _), (42, _)] (fa_cons h11 (fa_cons h12 (fa_cons h15 (fa_cons h16 (fa_cons h29 (fa_cons h35 (fa_cons h38 (fa_cons h39 (fa_cons h40 (fa_cons h41 (fa_cons (by simp [h11, h12, h15, h16, h29, h35, h38, h39, h40, h41] <;> rfl) fa_nil))))))))))) hds ?_
  clear hK2 h11 h12 h15 h16 h29 h35 h38 h39 h40 h41 hds; intro s hs hds
  obtain ⟨h11, h12, h15, h16, h29, h35, h38, h39, h40, h41, h42⟩ := facts11 hs; clear hs
  obtain ⟨tv', w2, hap, hT2⟩ := hT.try (tryOf hold p) (by omega)
  unfold tryOf at hap
  simp only at hap
  refine at_seq rfl fun K3 hK3 => ?_
  (conv => arg 4; whnf)
  refine fw_region_lit rfl ?_
  refine ops_take 6 fun KO hKO => ?_
  simp [go_sem, opsF, opF, upF, Region.wanted, Fr.ev, Fr.put, thenE, inBlockE, Oper.semAt, yieldF, h11, h12, h15, h16, h29, h35, h38, h39, h40, h41, h42]
  refine hKO _ _ ?_
  clear hKO
  refine ops_append rfl rfl rfl (v := tv) (u := .slice (some ⟨w.heap.size, 0, none⟩) 1 1) (by simp [Fr.ev]) (by simp [Fr.ev]) hap ?_
  try simp [go_sem, opsF, opF, upF, Region.wanted, Fr.ev, Fr.put, thenE, inBlockE, Oper.semAt, yieldF, h11, h12, h15, h16, h29, h35, h38, h39, h40, h41, h42]
  rw [← htr] at hT2
  by_cases hh : hold p.base (topOf p.l) = true
  · rw [hh] at h42
    refine on_kf hK3 [(11, _), (12, _), (15, _), (16, _), (29, _), (35, _), (38, _), (39, _), (40, _), (41, _), (42, _)] (fa_cons h11 (fa_cons h12 (fa_cons h15 (fa_cons h16 (fa_cons h29 (fa_cons h35 (fa_cons h38 (fa_cons h39 (fa_cons (by simp [h11, h12, h15, h16, h29, h35, h38, h39, h40, h41, h42] <;> rfl) (fa_cons h41 (fa_cons h42 fa_nil))))))))))) hds ?_
    clear hK3 h11 h12 h15 h16 h29 h35 h38 h39 h40 h41 h42 hds; intro s hs hds
    obtain ⟨h11, h12, h15, h16, h29, h35, h38, h39, h40, h41, h42⟩ := facts11 hs; clear hs
    refine at_seq rfl fun K4 hK4 => ?_
    refine at_seq rfl fun K5 hK5 => ?_
    (conv => arg 4; whnf)
    refine fw_region_lit rfl ?_
    simp [go_sem, opsF, opF, upF, Region.wanted, Fr.ev, Fr.put, thenE, inBlockE, Oper.semAt, yieldF, h11, h12, h15, h16, h29, h35, h38, h39, h40, h41, h42]
    refine on_kf hK5 [(11, _), (12, _), (15, _), (16, _), (29, _), (35, _), (38, _), (39, _), (40, _), (41, _), (348, _)] (fa_cons h11 (fa_cons h12 (fa_cons h15 (fa_cons h16 (fa_cons h29 (fa_cons h35 (fa_cons h38 (fa_cons h39 (fa_cons h40 (fa_cons h41 (fa_cons (by simp [h11, h12, h15, h16, h29, h35, h38, h39, h40, h41, h42] <;> rfl) fa_nil))))))))))) hds ?_
    clear hK5 h11 h12 h15 h16 h29 h35 h38 h39 h40 h41 h42 hds; intro s hs hds
    obtain ⟨h11, h12, h15, h16, h29, h35, h38, h39, h40, h41, h348⟩ := facts11 hs; clear hs
    refine at_true 348 rfl h348 ?_
    refine at_seq rfl fun K6 hK6 => ?_
    refine at_seq rfl fun K7 hK7 => ?_
    (conv => arg 4; whnf)
    refine draw_still mixed (by kernel_rfl) rfl fun wd hwd hnd => ?_
    simp [go_sem, stillsF, stillUpF, Region.wanted, Fr.ev, Fr.put, thenE, inBlockE, yieldF, h11, h12, h15, h16, h29, h35, h38, h39, h40, h41, h348, d2, d3, d4, d5, d6]
    have hT3 := hT2.new hnd
    have hrc : Row wd 3 1 (.slice (some ⟨g, 0, none⟩) (p.l.length - 1) cap) p.l.dropLast.length (p.l.dropLast.map (Value.int .i64)) := by
      have := hT3.rs.cut (m := p.l.length - 1) (by omega)
      rw [List.length_dropLast, List.dropLast_eq_take, List.map_take]
      simpa using this
    have hT4 : TL w0 wd mb F pv ps (.slice (some ⟨g, 0, none⟩) (p.l.length - 1) cap) av tv' p.l.dropLast (asksOf hold low high k) (trysOf hold low high (k + 1)) :=
      ⟨hT3.pr, hT3.mp, hrc, hT3.ra, hT3.rt, fun q hq => hT3.sep q hq, fun q hq => hT3.own q hq⟩
    by_cases hnil : p.l.dropLast = []
    · have hkN : k = N := by
        rcases Nat.lt_or_ge k N with h | h
        · exact absurd (.inl ⟨hh, hnil⟩) (hstp h)
        · omega
      subst hkN
      have e0 : (p.l.length : Int) - 1 = 0 := by
        have := congrArg List.length hnil
        simp at this
        omega
      have e1 : p.l.length - 1 = 0 := by omega
      refine on_kf hK7 [(11, _), (12, _), (15, _), (16, _), (29, _), (35, _), (38, _), (39, _), (40, _)] (fa_cons h11 (fa_cons h12 (fa_cons (by simp [h11, h12, h15, h16, h29, h35, h38, h39, h40, h41, h348, e1] <;> rfl) (fa_cons (by simp [h11, h12, h15, h16, h29, h35, h38, h39, h40, h41, h348, e1] <;> rfl) (fa_cons h29 (fa_cons h35 (fa_cons h38 (fa_cons h39 (fa_cons h40 fa_nil))))))))) hds ?_
      clear hK7 h11 h12 h15 h16 h29 h35 h38 h39 h40 h41 h348 hds; intro s hs hds
      obtain ⟨h11, h12, h15, h16, h29, h35, h38, h39, h40⟩ := facts9 hs; clear hs
      refine at_seq rfl fun K8 hK8 => ?_
      (conv => arg 4; whnf)
      refine fw_region_lit rfl ?_
      simp [go_sem, opsF, opF, upF, Region.wanted, Fr.ev, Fr.put, thenE, inBlockE, Oper.semAt, yieldF, h11, h12, h15, h16, h29, h35, h38, h39, h40, e1]
      refine on_kf hK8 [(11, _), (12, _), (15, _), (16, _), (29, _), (35, _), (38, _), (39, _), (40, _), (357, _)] (fa_cons h11 (fa_cons h12 (fa_cons h15 (fa_cons h16 (fa_cons h29 (fa_cons h35 (fa_cons h38 (fa_cons h39 (fa_cons h40 (fa_cons (by simp [h11, h12, h15, h16, h29, h35, h38, h39, h40, e1] <;> rfl) fa_nil)))))))))) hds ?_
      clear hK8 h11 h12 h15 h16 h29 h35 h38 h39 h40 hds; intro s hs hds
      obtain ⟨h11, h12, h15, h16, h29, h35, h38, h39, h40, h357⟩ := facts10 hs; clear hs
      refine at_true 357 rfl h357 ?_
      refine at_seq rfl fun K9 hK9 => ?_
      (conv => arg 4; whnf)
      refine fw_region_lit rfl ?_
      simp [go_sem, opsF, opF, upF, Region.wanted, Fr.ev, Fr.put, thenE, inBlockE, Oper.semAt, yieldF, h11, h12, h15, h16, h29, h35, h38, h39, h40, h357]
      refine on_kf hK9 [(11, _), (12, _), (29, _), (38, _), (39, _), (40, _)] (fa_cons h11 (fa_cons h12 (fa_cons h29 (fa_cons h38 (fa_cons (by simp [h11, h12, h15, h16, h29, h35, h38, h39, h40, h357] <;> rfl) (fa_cons h40 fa_nil)))))) hds ?_
      clear hK9 h11 h12 h15 h16 h29 h35 h38 h39 h40 h357 hds; intro s hs hds
      obtain ⟨h11, h12, h29, h38, h39, h40⟩ := facts6 hs; clear hs
      refine at_exit 11 rfl ?_
      simp only [inBlockE, thenE, if_true]
      exact hK s wd _ av tv' _ hT4 hds h11 h12 h29 h38 (by rw [h39, hpk, hh]) h40
    · have hlen2 : 2 ≤ p.l.length := by
        rcases Nat.lt_or_ge p.l.length 2 with h | h
        · exact absurd (List.eq_nil_of_length_eq_zero (by rw [List.length_dropLast]; omega)) hnil
        · exact h
      have e1 : (((p.l.length - 1 : Nat) : Int) == 0) = false := by simp; omega
      have hkN : k < N := by
        rcases Nat.lt_or_ge k N with h | h
        · exact h
        · have h' : k = N := by omega
          rcases hstN h' with h1 | h1
          · exact absurd h1.2 hnil
          · rw [hh] at h1; cases h1.1
      refine on_kf hK7 [(11, _), (12, _), (15, _), (16, _), (29, _), (35, _), (38, _), (39, _), (40, _)] (fa_cons h11 (fa_cons h12 (fa_cons (by simp [h11, h12, h15, h16, h29, h35, h38, h39, h40, h41, h348, e1] <;> rfl) (fa_cons (by simp [h11, h12, h15, h16, h29, h35, h38, h39, h40, h41, h348, e1] <;> rfl) (fa_cons h29 (fa_cons h35 (fa_cons h38 (fa_cons h39 (fa_cons h40 fa_nil))))))))) hds ?_
      clear hK7 h11 h12 h15 h16 h29 h35 h38 h39 h40 h41 h348 hds; intro s hs hds
      obtain ⟨h11, h12, h15, h16, h29, h35, h38, h39, h40⟩ := facts9 hs; clear hs
      refine at_seq rfl fun K10 hK10 => ?_
      (conv => arg 4; whnf)
      refine fw_region_lit rfl ?_
      simp [go_sem, opsF, opF, upF, Region.wanted, Fr.ev, Fr.put, thenE, inBlockE, Oper.semAt, yieldF, h11, h12, h15, h16, h29, h35, h38, h39, h40, e1]
      refine on_kf hK10 [(11, _), (12, _), (15, _), (16, _), (29, _), (35, _), (38, _), (39, _), (40, _), (357, _)] (fa_cons h11 (fa_cons h12 (fa_cons h15 (fa_cons h16 (fa_cons h29 (fa_cons h35 (fa_cons h38 (fa_cons h39 (fa_cons h40 (fa_cons (by simp [h11, h12, h15, h16, h29, h35, h38, h39, h40, e1] <;> rfl) fa_nil)))))))))) hds ?_
      clear hK10 h11 h12 h15 h16 h29 h35 h38 h39 h40 hds; intro s hs hds
      obtain ⟨h11, h12, h15, h16, h29, h35, h38, h39, h40, h357⟩ := facts10 hs; clear hs
      refine at_false 357 rfl h357 ?_
      refine at_skip rfl ?_
      try simp only [inBlockE, thenE]
      refine hK6 _ _ ?_
      clear hK6
      refine at_exit 12 rfl ?_
      simp only [inBlockE, thenE, if_true]
      refine ⟨N - (k + 1), by omega, k + 1, _, av, tv', by omega, rfl, ?_, hds, h11, h12, ?_, h16, h29, h35, h38, h39, h40⟩
      · rw [hsucc, has, if_pos hh]
        unfold nxt
        rw [if_pos hh]
        exact hT4
      · rw [hsucc]
        unfold nxt
        rw [if_pos hh]
        exact h15
  · have hf : hold p.base (topOf p.l) = false := by simpa using hh
    rw [hf] at h42
    have w1 : IntKind.i64.wrap (p.base + 1) = p.base + 1 := IntWalk.i64_in _ (by omega)
    by_cases hb : topOf p.l = p.base + 1
    · have hkN : k = N := by
        rcases Nat.lt_or_ge k N with h | h
        · exact absurd (.inr ⟨hf, hb⟩) (hstp h)
        · omega
      subst hkN
      have hb' : (topOf p.l == p.base + 1) = true := by simp [hb]
      refine on_kf hK3 [(11, _), (12, _), (15, _), (16, _), (29, _), (35, _), (38, _), (39, _), (40, _), (41, _), (42, _)] (fa_cons h11 (fa_cons h12 (fa_cons h15 (fa_cons h16 (fa_cons h29 (fa_cons h35 (fa_cons h38 (fa_cons h39 (fa_cons (by simp [h11, h12, h15, h16, h29, h35, h38, h39, h40, h41, h42, w1] <;> rfl) (fa_cons h41 (fa_cons h42 fa_nil))))))))))) hds ?_
      clear hK3 h11 h12 h15 h16 h29 h35 h38 h39 h40 h41 h42 hds; intro s hs hds
      obtain ⟨h11, h12, h15, h16, h29, h35, h38, h39, h40, h41, h42⟩ := facts11 hs; clear hs
      refine at_seq rfl fun K11 hK11 => ?_
      refine at_seq rfl fun K12 hK12 => ?_
      (conv => arg 4; whnf)
      refine fw_region_lit rfl ?_
      simp [go_sem, opsF, opF, upF, Region.wanted, Fr.ev, Fr.put, thenE, inBlockE, Oper.semAt, yieldF, h11, h12, h15, h16, h29, h35, h38, h39, h40, h41, h42, w1]
      refine on_kf hK12 [(11, _), (12, _), (15, _), (16, _), (29, _), (35, _), (38, _), (39, _), (40, _), (41, _), (348, _)] (fa_cons h11 (fa_cons h12 (fa_cons h15 (fa_cons h16 (fa_cons h29 (fa_cons h35 (fa_cons h38 (fa_cons h39 (fa_cons h40 (fa_cons h41 (fa_cons (by simp [h11, h12, h15, h16, h29, h35, h38, h39, h40, h41, h42, w1] <;> rfl) fa_nil))))))))))) hds ?_
      clear hK12 h11 h12 h15 h16 h29 h35 h38 h39 h40 h41 h42 hds; intro s hs hds
      obtain ⟨h11, h12, h15, h16, h29, h35, h38, h39, h40, h41, h348⟩ := facts11 hs; clear hs
      refine at_false 348 rfl h348 ?_
      refine at_skip rfl ?_
      try simp only [inBlockE, thenE]
      refine hK11 _ _ ?_
      clear hK11
      refine at_seq rfl fun K13 hK13 => ?_
      refine at_seq rfl fun K14 hK14 => ?_
      (conv => arg 4; whnf)
      refine fw_region_lit rfl ?_
      simp [go_sem, opsF, opF, upF, Region.wanted, Fr.ev, Fr.put, thenE, inBlockE, Oper.semAt, yieldF, h11, h12, h15, h16, h29, h35, h38, h39, h40, h41, h348, w1, hb']
      refine on_kf hK14 [(11, _), (12, _), (15, _), (16, _), (29, _), (35, _), (38, _), (39, _), (40, _), (41, _), (361, _)] (fa_cons h11 (fa_cons h12 (fa_cons h15 (fa_cons h16 (fa_cons h29 (fa_cons h35 (fa_cons h38 (fa_cons h39 (fa_cons h40 (fa_cons h41 (fa_cons (by simp [h11, h12, h15, h16, h29, h35, h38, h39, h40, h41, h348, w1, hb'] <;> rfl) fa_nil))))))))))) hds ?_
      clear hK14 h11 h12 h15 h16 h29 h35 h38 h39 h40 h41 h348 hds; intro s hs hds
      obtain ⟨h11, h12, h15, h16, h29, h35, h38, h39, h40, h41, h361⟩ := facts11 hs; clear hs
      refine at_true 361 rfl h361 ?_
      refine at_exit 11 rfl ?_
      simp only [inBlockE, thenE, if_true]
      exact hK s w2 _ av tv' _ hT2 hds h11 h12 h29 h38 (by rw [h39, hpk, hf]) h40
    · have hb' : (topOf p.l == p.base + 1) = false := by simp [hb]
      have hkN : k < N := by
        rcases Nat.lt_or_ge k N with h | h
        · exact h
        · have h' : k = N := by omega
          rcases hstN h' with h1 | h1
          · exact absurd h1.1 hh
          · exact absurd h1.2 hb
      have w2' : IntKind.i64.wrap (topOf p.l - p.base) = topOf p.l - p.base := IntWalk.i64_in _ (by omega)
      have w3 : Int.tdiv (topOf p.l - p.base) 2 = (topOf p.l - p.base) / 2 := Int.tdiv_eq_ediv_of_nonneg (by omega)
      have w4 : IntKind.i64.wrap ((topOf p.l - p.base) / 2) = (topOf p.l - p.base) / 2 := IntWalk.i64_in _ (by omega)
      have hmd : p.base + (topOf p.l - p.base) / 2 = midOf p.base (topOf p.l) := rfl
      have w5 : IntKind.i64.wrap (midOf p.base (topOf p.l)) = midOf p.base (topOf p.l) := IntWalk.i64_in _ (by unfold midOf; omega)
      obtain ⟨sv', w3', hap3, hT3⟩ := hT2.push (midOf p.base (topOf p.l)) (by omega)
      obtain ⟨av', w4', hap4, hT4⟩ := hT3.ask (midOf p.base (topOf p.l)) (by omega)
      refine on_kf hK3 [(11, _), (12, _), (15, _), (16, _), (29, _), (35, _), (38, _), (39, _), (40, _), (41, _), (42, _)] (fa_cons h11 (fa_cons h12 (fa_cons h15 (fa_cons h16 (fa_cons h29 (fa_cons h35 (fa_cons h38 (fa_cons h39 (fa_cons (by simp [h11, h12, h15, h16, h29, h35, h38, h39, h40, h41, h42, w1] <;> rfl) (fa_cons h41 (fa_cons h42 fa_nil))))))))))) hds ?_
      clear hK3 h11 h12 h15 h16 h29 h35 h38 h39 h40 h41 h42 hds; intro s hs hds
      obtain ⟨h11, h12, h15, h16, h29, h35, h38, h39, h40, h41, h42⟩ := facts11 hs; clear hs
      refine at_seq rfl fun K15 hK15 => ?_
      refine at_seq rfl fun K16 hK16 => ?_
      (conv => arg 4; whnf)
      refine fw_region_lit rfl ?_
      simp [go_sem, opsF, opF, upF, Region.wanted, Fr.ev, Fr.put, thenE, inBlockE, Oper.semAt, yieldF, h11, h12, h15, h16, h29, h35, h38, h39, h40, h41, h42, w1]
      refine on_kf hK16 [(11, _), (12, _), (15, _), (16, _), (29, _), (35, _), (38, _), (39, _), (40, _), (41, _), (348, _)] (fa_cons h11 (fa_cons h12 (fa_cons h15 (fa_cons h16 (fa_cons h29 (fa_cons h35 (fa_cons h38 (fa_cons h39 (fa_cons h40 (fa_cons h41 (fa_cons (by simp [h11, h12, h15, h16, h29, h35, h38, h39, h40, h41, h42, w1] <;> rfl) fa_nil))))))))))) hds ?_
      clear hK16 h11 h12 h15 h16 h29 h35 h38 h39 h40 h41 h42 hds; intro s hs hds
      obtain ⟨h11, h12, h15, h16, h29, h35, h38, h39, h40, h41, h348⟩ := facts11 hs; clear hs
      refine at_false 348 rfl h348 ?_
      refine at_skip rfl ?_
      try simp only [inBlockE, thenE]
      refine hK15 _ _ ?_
      clear hK15
      refine at_seq rfl fun K17 hK17 => ?_
      refine at_seq rfl fun K18 hK18 => ?_
      (conv => arg 4; whnf)
      refine fw_region_lit rfl ?_
      simp [go_sem, opsF, opF, upF, Region.wanted, Fr.ev, Fr.put, thenE, inBlockE, Oper.semAt, yieldF, h11, h12, h15, h16, h29, h35, h38, h39, h40, h41, h348, w1, hb']
      refine on_kf hK18 [(11, _), (12, _), (15, _), (16, _), (29, _), (35, _), (38, _), (39, _), (40, _), (41, _), (361, _)] (fa_cons h11 (fa_cons h12 (fa_cons h15 (fa_cons h16 (fa_cons h29 (fa_cons h35 (fa_cons h38 (fa_cons h39 (fa_cons h40 (fa_cons h41 (fa_cons (by simp [h11, h12, h15, h16, h29, h35, h38, h39, h40, h41, h348, w1, hb'] <;> rfl) fa_nil))))))))))) hds ?_
      clear hK18 h11 h12 h15 h16 h29 h35 h38 h39 h40 h41 h348 hds; intro s hs hds
      obtain ⟨h11, h12, h15, h16, h29, h35, h38, h39, h40, h41, h361⟩ := facts11 hs; clear hs
      refine at_false 361 rfl h361 ?_
      refine at_skip rfl ?_
      try simp only [inBlockE, thenE]
      refine hK17 _ _ ?_
      clear hK17
      refine at_seq rfl fun K19 hK19 => ?_
      (conv => arg 4; whnf)
      refine fw_region_lit rfl ?_
      simp [go_sem, opsF, opF, upF, Region.wanted, Fr.ev, Fr.put, thenE, inBlockE, Oper.semAt, yieldF, h11, h12, h15, h16, h29, h35, h38, h39, h40, h41, h361, w2', w3, w4, w5, hmd]
      refine on_kf hK19 [(11, _), (12, _), (15, _), (16, _), (29, _), (35, _), (38, _), (39, _), (40, _), (43, _)] (fa_cons h11 (fa_cons h12 (fa_cons h15 (fa_cons h16 (fa_cons h29 (fa_cons h35 (fa_cons h38 (fa_cons h39 (fa_cons h40 (fa_cons (by simp [h11, h12, h15, h16, h29, h35, h38, h39, h40, h41, h361, w2', w3, w4, w5, hmd] <;> rfl) fa_nil)))))))))) hds ?_
      clear hK19 h11 h12 h15 h16 h29 h35 h38 h39 h40 h41 h361 hds; intro s hs hds
      obtain ⟨h11, h12, h15, h16, h29, h35, h38, h39, h40, h43⟩ := facts10 hs; clear hs
      (conv => arg 4; whnf)
      refine fw_region_lit rfl ?_
      refine ops_take 3 fun KO hKO => ?_
      simp [go_sem, opsF, opF, upF, Region.wanted, Fr.ev, Fr.put, thenE, inBlockE, Oper.semAt, yieldF, h11, h12, h15, h16, h29, h35, h38, h39, h40, h43, w5]
      refine hKO _ _ ?_
      clear hKO
      refine ops_append rfl rfl rfl (v := .slice (some ⟨g, 0, none⟩) p.l.length cap) (u := .slice (some ⟨w2.heap.size, 0, none⟩) 1 1) (by simp [Fr.ev]) (by simp [Fr.ev]) hap3 ?_
      try simp only [List.drop_succ_cons, List.drop_zero]
      refine ops_take 3 fun KO hKO => ?_
      simp [go_sem, opsF, opF, upF, Region.wanted, Fr.ev, Fr.put, thenE, inBlockE, Oper.semAt, yieldF, h11, h12, h15, h16, h29, h35, h38, h39, h40, h43, w5]
      refine hKO _ _ ?_
      clear hKO
      refine ops_append rfl rfl rfl (v := av) (u := .slice (some ⟨w3'.heap.size, 0, none⟩) 1 1) (by simp [Fr.ev]) (by simp [Fr.ev]) hap4 ?_
      try simp [go_sem, opsF, opF, upF, Region.wanted, Fr.ev, Fr.put, thenE, inBlockE, Oper.semAt, yieldF, h11, h12, h15, h16, h29, h35, h38, h39, h40, h43]
      refine ⟨N - (k + 1), by omega, k + 1, sv', av', tv', by omega, rfl, ?_, hds, by simp [h11], by simp [h12], ?_, by simp, by simp [h29], by simp [h35], by simp, by simp [h39], by simp [h40]⟩
      · rw [hsucc, has, if_neg hh]
        unfold nxt
        rw [if_neg hh]
        exact hT4
      · rw [hsucc]
        unfold nxt
        rw [if_neg hh]
        simp [h15]
end Go.Proofs.Ytiejaopidkghdac
