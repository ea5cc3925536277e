/- A round that asks. -/
import Derived.Test.YtiejaopidkghdaaFl
namespace Go.Proofs.Ytiejaopidkghdaa
set_option linter.unusedSimpArgs false
set_option linter.unusedVariables false
open Go.RowKit Go.Lf

theorem call6 (args : Array Value) (w : World) : (callFunc 6 args).run Try.prog w = .ok (.enter 6 args) w := by
  simp [go_sem]

theorem idx_none {p : Rq → Bool} {l : List Rq} (h : idx p l < 0) : ∀ (i : Nat) (r : Rq), l[i]? = some r → p r = false := by
  unfold idx at h
  split at h
  · omega
  · rename_i hn
    rw [List.findIdx?_eq_none_iff] at hn
    intro i r hr
    exact hn r (List.mem_of_getElem? hr)

theorem idx_some {p : Rq → Bool} {l : List Rq} (h : 0 ≤ idx p l) : ∃ (i : Nat) (r : Rq), idx p l = (i : Int) ∧ l[i]? = some r ∧ p r = true := by
  unfold idx at h ⊢
  split at h
  · rename_i i hi
    rw [List.findIdx?_eq_some_iff_getElem] at hi
    obtain ⟨h1, h2, _⟩ := hi
    exact ⟨i, l[i], rfl, by simp [h1], h2⟩
  · omega

theorem PI.push {N : Int} {l : List Rq} (hp : PI N l) (to h now : Int) (ht : 0 ≤ to ∧ to < N) (hh : 1 ≤ h ∧ h ≤ 5) (hno : ∀ (i : Nat) (r : Rq), l[i]? = some r → r.op = true → r.to = to → r.h = h → False) : PI N (l ++ [⟨(l.length : Int) + 1, to, h, now, true⟩]) := by
  have get : ∀ (i : Nat) (r : Rq), (l ++ [⟨(l.length : Int) + 1, to, h, now, true⟩])[i]? = some r → l[i]? = some r ∨ (i = l.length ∧ r = ⟨(l.length : Int) + 1, to, h, now, true⟩) := by
    intro i r hr
    rw [List.getElem?_append] at hr
    split at hr
    · exact .inl hr
    · rename_i hi
      have hi0 : i - l.length = 0 := by
        have := (List.getElem?_eq_some_iff.1 hr).1
        simp at this
        omega
      rw [hi0] at hr
      simp at hr
      exact .inr ⟨by omega, hr.symm⟩
  constructor
  · intro i r hr
    rcases get i r hr with hr | ⟨rfl, rfl⟩
    · exact hp.each i r hr
    · exact ⟨rfl, ht.1, ht.2, hh.1, hh.2⟩
  · intro i j a b ha hb oa ob e1 e2
    rcases get i a ha with ha | ⟨rfl, rfl⟩ <;> rcases get j b hb with hb | ⟨rfl, rfl⟩
    · exact hp.uniq i j a b ha hb oa ob e1 e2
    · exact (hno i a ha oa e1 e2).elim
    · exact (hno j b hb ob e1.symm e2.symm).elim
    · rfl

set_option maxHeartbeats 1000000 in
theorem segAsk (s : Fr) (w0 w : World) (K : Fr → World → Prop) (Q : Exit → Fr → World → Prop) (N : Int) (fb : Nat) (l : List Rq) (S : Nat → Prop) (ov rv : Value) (ys : List Value) (id : Int) (m k b1 b2 : Nat) (to h now : Int)
    (hs : FS N fb ov rv id m k s) (hL : LW w0 fb N l S ov rv m ys w) (hp : PI N l) (hll : l.length ≤ 200) (hN : 1 ≤ N ∧ N ≤ 16) (hto : -1 ≤ to ∧ to ≤ N) (hh : 0 ≤ h ∧ h ≤ 5) (hnow : -2 ≤ now ∧ now ≤ 1000)
    (h12 : s.t 12 = .pointer (some ⟨b1, 0, none⟩)) (h13 : s.t 13 = .pointer (some ⟨b2, 0, none⟩)) (h14 : s.t 14 = .int .i64 now)
    (hb1 : Blk w b1 #[.int .i64 to] 3) (hb2 : Blk w b2 #[.int .i64 h] 3)
    (hK : ∀ s w' l' S' ov', FS N fb ov' rv id m k s → LW w0 fb N l' S' ov' rv m ys w' → PI N l' → l'.length ≤ l.length + 1 → K s w') : FW Try.prog 303 none (sub body3 [0,1,0,1,1,1,0,0,1,1,0,0,1,0,1,1,1,1,1,1]) (thenE K Q) s w := by
  obtain ⟨h5, h6, h8, h15, h63, h64, h65, hds⟩ := hs
  refine at_seq rfl fun K1 hK1 => ?_
  (conv => arg 4; whnf)
  refine fw_region_lit rfl ?_
  simp [go_sem, opsF, opF, upF, Region.wanted, Fr.ev, Fr.put, thenE, inBlockE, Oper.semAt, yieldF, h5, h6, h8, h12, h13, h14, h15, h63, h64, h65]
  refine (indexFunc_any ov l 6 #[.pointer (some ⟨b1, 0, none⟩), .pointer (some ⟨b2, 0, none⟩)] (hit to h) w hL.own call6 (fun r w1 hw => by
    have := hit_any b1 b2 to h r w1 ((hb1.frm hw (fun h => h)).cell 0) ((hb2.frm hw (fun h => h)).cell 0)
    exact this)).on ?_
  rintro v w1 ⟨rfl, hw1⟩
  have hL1 := hL.new hw1
  have hb1' := hb1.frm hw1 (fun h => h)
  have hb2' := hb2.frm hw1 (fun h => h)
  clear hb1 hb2 hL hw1
  refine on_kf hK1 [(5, .int .i64 N), (6, .pointer (some ⟨fb, 0, none⟩)), (8, ov), (12, .pointer (some ⟨b1, 0, none⟩)), (13, .pointer (some ⟨b2, 0, none⟩)), (14, .int .i64 now), (15, .int .i64 id), (16, .int .i64 (idx (hit to h) l)), (63, rv), (64, .int .i64 (m : Int)), (65, .int .i64 (k : Int))] (by simp [h5, h6, h8, h12, h13, h14, h15, h63, h64, h65]) hds ?_
  clear hK1 h5 h6 h8 h12 h13 h14 h15 h63 h64 h65 hds; intro s hs hds
  obtain ⟨h5, h6, h8, h12, h13, h14, h15, h16, h63, h64, h65⟩ := facts11 hs; clear hs
  refine at_seq rfl fun K2 hK2 => ?_
  (conv => arg 4; whnf)
  refine fw_region_lit rfl ?_
  simp [go_sem, opsF, opF, upF, Region.wanted, Fr.ev, Fr.put, thenE, inBlockE, Oper.semAt, yieldF, h5, h6, h8, h12, h13, h14, h15, h16, h63, h64, h65]
  refine on_kf hK2 [(5, .int .i64 N), (6, .pointer (some ⟨fb, 0, none⟩)), (8, ov), (12, .pointer (some ⟨b1, 0, none⟩)), (13, .pointer (some ⟨b2, 0, none⟩)), (14, .int .i64 now), (15, .int .i64 id), (16, .int .i64 (idx (hit to h) l)), (17, .int .i64 0), (18, .bool false), (19, .int .i64 0), (63, rv), (64, .int .i64 (m : Int)), (65, .int .i64 (k : Int))] (by simp [h5, h6, h8, h12, h13, h14, h15, h16, h63, h64, h65]) hds ?_
  clear hK2 h5 h6 h8 h12 h13 h14 h15 h16 h63 h64 h65 hds; intro s hs hds
  obtain ⟨h5, h6, h8, h12, h13, h14, h15, h16, h17, h18, h19, h63, h64, h65⟩ := facts14 hs; clear hs
  refine at_seq rfl fun K3 hK3 => ?_
  refine at_block 2 rfl ?_
  have y1 := hb1'.cell 0
  have y2 := hb2'.cell 0
  by_cases hbad : to < 0 ∨ N ≤ to ∨ h < 1 ∨ now < 0
  · have hlk : CallsV Try.prog 8 #[.pointer (some ⟨fb, 0, none⟩), .int .i64 to, .int .i64 h, .int .i64 now] w1 fun v w' => v = .tuple #[.int .i64 0, .bool false, .int .i64 3] ∧ LW w0 fb N l S ov rv m ys w' := by
      obtain ⟨mb, lv, F, hfl, hm, _⟩ := hL1.fl.ex
      refine (look_any fb mb N lv l F to h now w1 hfl hm (WalkArith.wf_i64 (by omega)) (WalkArith.wf_i64 (by omega)) hbad (by omega) (by omega)).on ?_
      rintro v w' ⟨rfl, hn⟩
      exact ⟨rfl, hL1.new hn⟩
    have hcase : to < 0 ∨ (¬ to < 0 ∧ N ≤ to) ∨ (¬ to < 0 ∧ ¬ N ≤ to ∧ h < 1) ∨ (¬ to < 0 ∧ ¬ N ≤ to ∧ ¬ h < 1 ∧ now < 0) := by omega
    rcases hcase with d1 | ⟨d1, d2⟩ | ⟨d1, d2, d3⟩ | ⟨d1, d2, d3, d4⟩
    · refine at_seq rfl fun K4 hK4 => ?_
      (conv => arg 4; whnf)
      refine fw_region_lit rfl ?_
      simp [go_sem, opsF, opF, upF, Region.wanted, Fr.ev, Fr.put, thenE, inBlockE, Oper.semAt, yieldF, h5, h6, h8, h12, h13, h14, h15, h16, h17, h18, h19, h63, h64, h65, y1, y2, d1]
      refine on_kf hK4 [(5, .int .i64 N), (6, .pointer (some ⟨fb, 0, none⟩)), (8, ov), (12, .pointer (some ⟨b1, 0, none⟩)), (13, .pointer (some ⟨b2, 0, none⟩)), (14, .int .i64 now), (15, .int .i64 id), (16, .int .i64 (idx (hit to h) l)), (17, .int .i64 0), (18, .bool false), (19, .int .i64 0), (63, rv), (64, .int .i64 (m : Int)), (65, .int .i64 (k : Int)), (111, .bool true)] (by simp [h5, h6, h8, h12, h13, h14, h15, h16, h17, h18, h19, h63, h64, h65]) hds ?_
      clear hK4 h5 h6 h8 h12 h13 h14 h15 h16 h17 h18 h19 h63 h64 h65 hds; intro s hs hds
      obtain ⟨h5, h6, h8, h12, h13, h14, h15, h16, h17, h18, h19, h63, h64, h65, h111⟩ := facts15 hs; clear hs
      refine at_true 111 rfl h111 ?_
      (conv => arg 4; whnf)
      refine fw_region_lit rfl ?_
      simp [go_sem, opsF, opF, upF, Region.wanted, Fr.ev, Fr.put, thenE, inBlockE, Oper.semAt, yieldF, h5, h6, h8, h12, h13, h14, h15, h16, h17, h18, h19, h63, h64, h65, h111]
      refine on_kf hK3 [(5, .int .i64 N), (6, .pointer (some ⟨fb, 0, none⟩)), (8, ov), (12, .pointer (some ⟨b1, 0, none⟩)), (13, .pointer (some ⟨b2, 0, none⟩)), (14, .int .i64 now), (15, .int .i64 id), (16, .int .i64 (idx (hit to h) l)), (17, .int .i64 0), (18, .bool false), (19, .int .i64 3), (63, rv), (64, .int .i64 (m : Int)), (65, .int .i64 (k : Int)), (111, .bool true)] (by simp [h5, h6, h8, h12, h13, h14, h15, h16, h17, h18, h19, h63, h64, h65, h111]) hds ?_
      clear hK3 h5 h6 h8 h12 h13 h14 h15 h16 h17 h18 h19 h63 h64 h65 h111 hds; intro s hs hds
      obtain ⟨h5, h6, h8, h12, h13, h14, h15, h16, h17, h18, h19, h63, h64, h65, h111⟩ := facts15 hs; clear hs
      exact segAsk2 s w1 K Q N fb ov rv id m k b1 b2 to h now 0 3 false _ ⟨h5, h6, h8, h15, h63, h64, h65, hds⟩ h12 h13 h14 h17 h18 h19 hb1' hb2' hlk (fun s w' hf hl => hK s w' l S ov hf hl hp (by omega))
    · refine at_seq rfl fun K5 hK5 => ?_
      (conv => arg 4; whnf)
      refine fw_region_lit rfl ?_
      simp [go_sem, opsF, opF, upF, Region.wanted, Fr.ev, Fr.put, thenE, inBlockE, Oper.semAt, yieldF, h5, h6, h8, h12, h13, h14, h15, h16, h17, h18, h19, h63, h64, h65, y1, y2, d1, d2]
      refine on_kf hK5 [(5, .int .i64 N), (6, .pointer (some ⟨fb, 0, none⟩)), (8, ov), (12, .pointer (some ⟨b1, 0, none⟩)), (13, .pointer (some ⟨b2, 0, none⟩)), (14, .int .i64 now), (15, .int .i64 id), (16, .int .i64 (idx (hit to h) l)), (17, .int .i64 0), (18, .bool false), (19, .int .i64 0), (63, rv), (64, .int .i64 (m : Int)), (65, .int .i64 (k : Int)), (111, .bool true)] (by simp [h5, h6, h8, h12, h13, h14, h15, h16, h17, h18, h19, h63, h64, h65]) hds ?_
      clear hK5 h5 h6 h8 h12 h13 h14 h15 h16 h17 h18 h19 h63 h64 h65 hds; intro s hs hds
      obtain ⟨h5, h6, h8, h12, h13, h14, h15, h16, h17, h18, h19, h63, h64, h65, h111⟩ := facts15 hs; clear hs
      refine at_true 111 rfl h111 ?_
      (conv => arg 4; whnf)
      refine fw_region_lit rfl ?_
      simp [go_sem, opsF, opF, upF, Region.wanted, Fr.ev, Fr.put, thenE, inBlockE, Oper.semAt, yieldF, h5, h6, h8, h12, h13, h14, h15, h16, h17, h18, h19, h63, h64, h65, h111]
      refine on_kf hK3 [(5, .int .i64 N), (6, .pointer (some ⟨fb, 0, none⟩)), (8, ov), (12, .pointer (some ⟨b1, 0, none⟩)), (13, .pointer (some ⟨b2, 0, none⟩)), (14, .int .i64 now), (15, .int .i64 id), (16, .int .i64 (idx (hit to h) l)), (17, .int .i64 0), (18, .bool false), (19, .int .i64 3), (63, rv), (64, .int .i64 (m : Int)), (65, .int .i64 (k : Int)), (111, .bool true)] (by simp [h5, h6, h8, h12, h13, h14, h15, h16, h17, h18, h19, h63, h64, h65, h111]) hds ?_
      clear hK3 h5 h6 h8 h12 h13 h14 h15 h16 h17 h18 h19 h63 h64 h65 h111 hds; intro s hs hds
      obtain ⟨h5, h6, h8, h12, h13, h14, h15, h16, h17, h18, h19, h63, h64, h65, h111⟩ := facts15 hs; clear hs
      exact segAsk2 s w1 K Q N fb ov rv id m k b1 b2 to h now 0 3 false _ ⟨h5, h6, h8, h15, h63, h64, h65, hds⟩ h12 h13 h14 h17 h18 h19 hb1' hb2' hlk (fun s w' hf hl => hK s w' l S ov hf hl hp (by omega))
    · refine at_seq rfl fun K6 hK6 => ?_
      (conv => arg 4; whnf)
      refine fw_region_lit rfl ?_
      simp [go_sem, opsF, opF, upF, Region.wanted, Fr.ev, Fr.put, thenE, inBlockE, Oper.semAt, yieldF, h5, h6, h8, h12, h13, h14, h15, h16, h17, h18, h19, h63, h64, h65, y1, y2, d1, d2, d3]
      refine on_kf hK6 [(5, .int .i64 N), (6, .pointer (some ⟨fb, 0, none⟩)), (8, ov), (12, .pointer (some ⟨b1, 0, none⟩)), (13, .pointer (some ⟨b2, 0, none⟩)), (14, .int .i64 now), (15, .int .i64 id), (16, .int .i64 (idx (hit to h) l)), (17, .int .i64 0), (18, .bool false), (19, .int .i64 0), (63, rv), (64, .int .i64 (m : Int)), (65, .int .i64 (k : Int)), (111, .bool true)] (by simp [h5, h6, h8, h12, h13, h14, h15, h16, h17, h18, h19, h63, h64, h65]) hds ?_
      clear hK6 h5 h6 h8 h12 h13 h14 h15 h16 h17 h18 h19 h63 h64 h65 hds; intro s hs hds
      obtain ⟨h5, h6, h8, h12, h13, h14, h15, h16, h17, h18, h19, h63, h64, h65, h111⟩ := facts15 hs; clear hs
      refine at_true 111 rfl h111 ?_
      (conv => arg 4; whnf)
      refine fw_region_lit rfl ?_
      simp [go_sem, opsF, opF, upF, Region.wanted, Fr.ev, Fr.put, thenE, inBlockE, Oper.semAt, yieldF, h5, h6, h8, h12, h13, h14, h15, h16, h17, h18, h19, h63, h64, h65, h111]
      refine on_kf hK3 [(5, .int .i64 N), (6, .pointer (some ⟨fb, 0, none⟩)), (8, ov), (12, .pointer (some ⟨b1, 0, none⟩)), (13, .pointer (some ⟨b2, 0, none⟩)), (14, .int .i64 now), (15, .int .i64 id), (16, .int .i64 (idx (hit to h) l)), (17, .int .i64 0), (18, .bool false), (19, .int .i64 3), (63, rv), (64, .int .i64 (m : Int)), (65, .int .i64 (k : Int)), (111, .bool true)] (by simp [h5, h6, h8, h12, h13, h14, h15, h16, h17, h18, h19, h63, h64, h65, h111]) hds ?_
      clear hK3 h5 h6 h8 h12 h13 h14 h15 h16 h17 h18 h19 h63 h64 h65 h111 hds; intro s hs hds
      obtain ⟨h5, h6, h8, h12, h13, h14, h15, h16, h17, h18, h19, h63, h64, h65, h111⟩ := facts15 hs; clear hs
      exact segAsk2 s w1 K Q N fb ov rv id m k b1 b2 to h now 0 3 false _ ⟨h5, h6, h8, h15, h63, h64, h65, hds⟩ h12 h13 h14 h17 h18 h19 hb1' hb2' hlk (fun s w' hf hl => hK s w' l S ov hf hl hp (by omega))
    · refine at_seq rfl fun K7 hK7 => ?_
      (conv => arg 4; whnf)
      refine fw_region_lit rfl ?_
      simp [go_sem, opsF, opF, upF, Region.wanted, Fr.ev, Fr.put, thenE, inBlockE, Oper.semAt, yieldF, h5, h6, h8, h12, h13, h14, h15, h16, h17, h18, h19, h63, h64, h65, y1, y2, d1, d2, d3, d4]
      refine on_kf hK7 [(5, .int .i64 N), (6, .pointer (some ⟨fb, 0, none⟩)), (8, ov), (12, .pointer (some ⟨b1, 0, none⟩)), (13, .pointer (some ⟨b2, 0, none⟩)), (14, .int .i64 now), (15, .int .i64 id), (16, .int .i64 (idx (hit to h) l)), (17, .int .i64 0), (18, .bool false), (19, .int .i64 0), (63, rv), (64, .int .i64 (m : Int)), (65, .int .i64 (k : Int)), (111, .bool true)] (by simp [h5, h6, h8, h12, h13, h14, h15, h16, h17, h18, h19, h63, h64, h65]) hds ?_
      clear hK7 h5 h6 h8 h12 h13 h14 h15 h16 h17 h18 h19 h63 h64 h65 hds; intro s hs hds
      obtain ⟨h5, h6, h8, h12, h13, h14, h15, h16, h17, h18, h19, h63, h64, h65, h111⟩ := facts15 hs; clear hs
      refine at_true 111 rfl h111 ?_
      (conv => arg 4; whnf)
      refine fw_region_lit rfl ?_
      simp [go_sem, opsF, opF, upF, Region.wanted, Fr.ev, Fr.put, thenE, inBlockE, Oper.semAt, yieldF, h5, h6, h8, h12, h13, h14, h15, h16, h17, h18, h19, h63, h64, h65, h111]
      refine on_kf hK3 [(5, .int .i64 N), (6, .pointer (some ⟨fb, 0, none⟩)), (8, ov), (12, .pointer (some ⟨b1, 0, none⟩)), (13, .pointer (some ⟨b2, 0, none⟩)), (14, .int .i64 now), (15, .int .i64 id), (16, .int .i64 (idx (hit to h) l)), (17, .int .i64 0), (18, .bool false), (19, .int .i64 3), (63, rv), (64, .int .i64 (m : Int)), (65, .int .i64 (k : Int)), (111, .bool true)] (by simp [h5, h6, h8, h12, h13, h14, h15, h16, h17, h18, h19, h63, h64, h65, h111]) hds ?_
      clear hK3 h5 h6 h8 h12 h13 h14 h15 h16 h17 h18 h19 h63 h64 h65 h111 hds; intro s hs hds
      obtain ⟨h5, h6, h8, h12, h13, h14, h15, h16, h17, h18, h19, h63, h64, h65, h111⟩ := facts15 hs; clear hs
      exact segAsk2 s w1 K Q N fb ov rv id m k b1 b2 to h now 0 3 false _ ⟨h5, h6, h8, h15, h63, h64, h65, hds⟩ h12 h13 h14 h17 h18 h19 hb1' hb2' hlk (fun s w' hf hl => hK s w' l S ov hf hl hp (by omega))
  · have d1 : ¬ to < 0 := by omega
    have d2 : ¬ N ≤ to := by omega
    have d3 : ¬ h < 1 := by omega
    have d4 : ¬ now < 0 := by omega
    refine at_seq rfl fun K8 hK8 => ?_
    (conv => arg 4; whnf)
    refine fw_region_lit rfl ?_
    simp [go_sem, opsF, opF, upF, Region.wanted, Fr.ev, Fr.put, thenE, inBlockE, Oper.semAt, yieldF, h5, h6, h8, h12, h13, h14, h15, h16, h17, h18, h19, h63, h64, h65, y1, y2, d1, d2, d3, d4]
    refine on_kf hK8 [(5, .int .i64 N), (6, .pointer (some ⟨fb, 0, none⟩)), (8, ov), (12, .pointer (some ⟨b1, 0, none⟩)), (13, .pointer (some ⟨b2, 0, none⟩)), (14, .int .i64 now), (15, .int .i64 id), (16, .int .i64 (idx (hit to h) l)), (17, .int .i64 0), (18, .bool false), (19, .int .i64 0), (63, rv), (64, .int .i64 (m : Int)), (65, .int .i64 (k : Int)), (111, .bool false)] (by simp [h5, h6, h8, h12, h13, h14, h15, h16, h17, h18, h19, h63, h64, h65]) hds ?_
    clear hK8 h5 h6 h8 h12 h13 h14 h15 h16 h17 h18 h19 h63 h64 h65 hds; intro s hs hds
    obtain ⟨h5, h6, h8, h12, h13, h14, h15, h16, h17, h18, h19, h63, h64, h65, h111⟩ := facts15 hs; clear hs
    refine at_false 111 rfl h111 ?_
    by_cases hix : 0 ≤ idx (hit to h) l
    · obtain ⟨i, r, hi, hr, hpr⟩ := idx_some hix
      have hil : i < l.length := (List.getElem?_eq_some_iff.1 hr).1
      rw [hi] at h16
      refine at_seq rfl fun K9 hK9 => ?_
      (conv => arg 4; whnf)
      refine fw_region_lit rfl ?_
      simp [go_sem, opsF, opF, upF, Region.wanted, Fr.ev, Fr.put, thenE, inBlockE, Oper.semAt, yieldF, h5, h6, h8, h12, h13, h14, h15, h16, h17, h18, h19, h63, h64, h65, h111]
      refine on_kf hK9 [(5, .int .i64 N), (6, .pointer (some ⟨fb, 0, none⟩)), (8, ov), (12, .pointer (some ⟨b1, 0, none⟩)), (13, .pointer (some ⟨b2, 0, none⟩)), (14, .int .i64 now), (15, .int .i64 id), (16, .int .i64 (i : Int)), (17, .int .i64 0), (18, .bool false), (19, .int .i64 0), (63, rv), (64, .int .i64 (m : Int)), (65, .int .i64 (k : Int)), (111, .bool false), (127, .bool true)] (by simp [h5, h6, h8, h12, h13, h14, h15, h16, h17, h18, h19, h63, h64, h65, h111]) hds ?_
      clear hK9 h5 h6 h8 h12 h13 h14 h15 h16 h17 h18 h19 h63 h64 h65 h111 hds; intro s hs hds
      obtain ⟨h5, h6, h8, h12, h13, h14, h15, h16, h17, h18, h19, h63, h64, h65, h111, h127⟩ := facts16 hs; clear hs
      refine at_true 127 rfl h127 ?_
      have e1 : IntKind.i64.wrap ((i : Int) + 1) = (i : Int) + 1 := IntWalk.i64_in _ (by omega)
      (conv => arg 4; whnf)
      refine fw_region_lit rfl ?_
      simp [go_sem, opsF, opF, upF, Region.wanted, Fr.ev, Fr.put, thenE, inBlockE, Oper.semAt, yieldF, h5, h6, h8, h12, h13, h14, h15, h16, h17, h18, h19, h63, h64, h65, h111, h127, e1]
      refine on_kf hK3 [(5, .int .i64 N), (6, .pointer (some ⟨fb, 0, none⟩)), (8, ov), (12, .pointer (some ⟨b1, 0, none⟩)), (13, .pointer (some ⟨b2, 0, none⟩)), (14, .int .i64 now), (15, .int .i64 id), (16, .int .i64 (i : Int)), (17, .int .i64 ((i : Int) + 1)), (18, .bool false), (19, .int .i64 0), (63, rv), (64, .int .i64 (m : Int)), (65, .int .i64 (k : Int)), (111, .bool false), (127, .bool true)] (by simp [h5, h6, h8, h12, h13, h14, h15, h16, h17, h18, h19, h63, h64, h65, h111, h127]) hds ?_
      clear hK3 h5 h6 h8 h12 h13 h14 h15 h16 h17 h18 h19 h63 h64 h65 h111 h127 hds; intro s hs hds
      obtain ⟨h5, h6, h8, h12, h13, h14, h15, h16, h17, h18, h19, h63, h64, h65, h111, h127⟩ := facts16 hs; clear hs
      simp [hit] at hpr
      have hao := ask_old fb N l S to h now i r w1 hL1.fl (by omega) (by omega) (by omega) hr hpr.2 hpr.1.1 hpr.1.2
      exact segAsk2 s w1 K Q N fb ov rv id m k b1 b2 to h now ((i : Int) + 1) 0 false (fun w' => w' = w1) ⟨h5, h6, h8, h15, h63, h64, h65, hds⟩ h12 h13 h14 h17 h18 h19 hb1' hb2' hao (fun s w' hf hl => hK s w' l S ov hf (hl ▸ hL1) hp (by omega))
    · have hno : ∀ (i : Nat) (r : Rq), l[i]? = some r → r.op = true → r.to = to → r.h = h → False := by
        intro i r hr ho ht hh
        have := idx_none (by omega : idx (hit to h) l < 0) i r hr
        simp [hit, ho, ht, hh] at this
      refine at_seq rfl fun K10 hK10 => ?_
      (conv => arg 4; whnf)
      refine fw_region_lit rfl ?_
      simp [go_sem, opsF, opF, upF, Region.wanted, Fr.ev, Fr.put, thenE, inBlockE, Oper.semAt, yieldF, h5, h6, h8, h12, h13, h14, h15, h16, h17, h18, h19, h63, h64, h65, h111, hix]
      refine on_kf hK10 [(5, .int .i64 N), (6, .pointer (some ⟨fb, 0, none⟩)), (8, ov), (12, .pointer (some ⟨b1, 0, none⟩)), (13, .pointer (some ⟨b2, 0, none⟩)), (14, .int .i64 now), (15, .int .i64 id), (16, .int .i64 (idx (hit to h) l)), (17, .int .i64 0), (18, .bool false), (19, .int .i64 0), (63, rv), (64, .int .i64 (m : Int)), (65, .int .i64 (k : Int)), (111, .bool false), (127, .bool false)] (by simp [h5, h6, h8, h12, h13, h14, h15, h16, h17, h18, h19, h63, h64, h65, h111]) hds ?_
      clear hK10 h5 h6 h8 h12 h13 h14 h15 h16 h17 h18 h19 h63 h64 h65 h111 hds; intro s hs hds
      obtain ⟨h5, h6, h8, h12, h13, h14, h15, h16, h17, h18, h19, h63, h64, h65, h111, h127⟩ := facts16 hs; clear hs
      refine at_false 127 rfl h127 ?_
      refine at_seq rfl fun K11 hK11 => ?_
      refine seg15 s w1 b1 b2 ov l to h now _ _ h8 h12 h13 h14 hb1' hb2' hL1.own (by omega) ?_
      intro s2 w2 ov' hkeep hds2 hw2 k8 hrow hown
      have h5 := (hkeep 5 (by omega) (by omega)).trans h5
      have h6 := (hkeep 6 (by omega) (by omega)).trans h6
      have h12 := (hkeep 12 (by omega) (by omega)).trans h12
      have h13 := (hkeep 13 (by omega) (by omega)).trans h13
      have h14 := (hkeep 14 (by omega) (by omega)).trans h14
      have h15 := (hkeep 15 (by omega) (by omega)).trans h15
      have h18 := (hkeep 18 (by omega) (by omega)).trans h18
      have h19 := (hkeep 19 (by omega) (by omega)).trans h19
      have h63 := (hkeep 63 (by omega) (by omega)).trans h63
      have h64 := (hkeep 64 (by omega) (by omega)).trans h64
      have h65 := (hkeep 65 (by omega) (by omega)).trans h65
      have h8 := k8
      have hds := hds2.trans hds
      clear k8 hds2
      obtain ⟨ad, cp, rfl⟩ : ∃ ad cp, ov' = .slice ad (l.length + 1) cp := by
        rcases hrow.val with ⟨h, h', _⟩ | ⟨g, cap, h, _⟩
        · omega
        · exact ⟨_, cap, h⟩
      refine on_kf hK11 [(5, .int .i64 N), (6, .pointer (some ⟨fb, 0, none⟩)), (8, .slice ad (l.length + 1) cp), (12, .pointer (some ⟨b1, 0, none⟩)), (13, .pointer (some ⟨b2, 0, none⟩)), (14, .int .i64 now), (15, .int .i64 id), (18, .bool false), (19, .int .i64 0), (63, rv), (64, .int .i64 (m : Int)), (65, .int .i64 (k : Int))] (by simp [h5, h6, h8, h12, h13, h14, h15, h18, h19, h63, h64, h65]) hds ?_
      clear hK11 h5 h6 h8 h12 h13 h14 h15 h18 h19 h63 h64 h65 hds; intro s hs hds
      obtain ⟨h5, h6, h8, h12, h13, h14, h15, h18, h19, h63, h64, h65⟩ := facts12 hs; clear hs
      have hL2 := hL1.new hw2
      have hb1'' := hb1'.frm hw2 (fun h => h)
      have hb2'' := hb2'.frm hw2 (fun h => h)
      (conv => arg 4; whnf)
      refine fw_region_lit rfl ?_
      simp [go_sem, opsF, opF, upF, Region.wanted, Fr.ev, Fr.put, thenE, inBlockE, Oper.semAt, yieldF, h5, h6, h8, h12, h13, h14, h15, h18, h19, h63, h64, h65]
      refine on_kf hK3 [(5, .int .i64 N), (6, .pointer (some ⟨fb, 0, none⟩)), (8, .slice ad (l.length + 1) cp), (12, .pointer (some ⟨b1, 0, none⟩)), (13, .pointer (some ⟨b2, 0, none⟩)), (14, .int .i64 now), (15, .int .i64 id), (17, .int .i64 ((l.length : Int) + 1)), (18, .bool true), (19, .int .i64 0), (63, rv), (64, .int .i64 (m : Int)), (65, .int .i64 (k : Int))] (by simp [h5, h6, h8, h12, h13, h14, h15, h18, h19, h63, h64, h65]) hds ?_
      clear hK3 h5 h6 h8 h12 h13 h14 h15 h18 h19 h63 h64 h65 hds; intro s hs hds
      obtain ⟨h5, h6, h8, h12, h13, h14, h15, h17, h18, h19, h63, h64, h65⟩ := facts13 hs; clear hs
      have han := ask_new fb N l S to h now w2 hL2.fl (by omega) (by omega) (by omega) hno (by omega)
      refine segAsk2 s w2 K Q N fb _ rv id m k b1 b2 to h now ((l.length : Int) + 1) 0 true _ ⟨h5, h6, h8, h15, h63, h64, h65, hds⟩ h12 h13 h14 h17 h18 h19 hb1'' hb2'' han ?_
      rintro s w' hf ⟨S', hfl', hS', hfr⟩
      refine hK s w' _ S' _ hf (hL2.flight hfr hfl' hS' (by simpa using hrow) ?_) (hp.push to h now (by omega) (by omega) hno) (by simp)
      intro b hb
      have hge := hown b hb
      have hsz := hL1.nw.size
      refine ⟨by omega, fun hs => ?_, fun hr => ?_⟩
      · have := hL1.fl.lt b hs; omega
      · have := hL1.known.lt b hr; omega
end Go.Proofs.Ytiejaopidkghdaa
