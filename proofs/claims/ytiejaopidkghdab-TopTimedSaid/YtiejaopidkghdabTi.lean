/- Deadline; from how many strikes on the wait is the cap. -/
import Derived.Test.YtiejaopidkghdabTh
namespace Go.Proofs.Ytiejaopidkghdab
set_option linter.unusedSimpArgs false
set_option linter.unusedVariables false
open Go.RowKit Go.Lf

noncomputable def body16 : Code := Try.f16.body.getD .skip
theorem deadline_any (y : Int) (k : Nat) (base cap : Int) (w : World) (hk : k ≤ 1000) (hf : 1 ≤ base ∧ base ≤ cap ∧ cap ≤ 1048576) (hy : 0 ≤ y ∧ y ≤ 1000) :
    CallsV Try.prog 16 #[.int .i64 y, .int .i64 (k : Int), .int .i64 base, .int .i64 cap] w fun v w' => v = .tuple #[.int .i64 (y + wv base cap k), .int .i64 0] ∧ New w w' := by
  have hwb : wbad base cap = 0 := by unfold wbad; rw [if_pos hf]
  obtain ⟨v1, v2⟩ := wv_range (base := base) (cap := cap) ⟨hf.1, hf.2.1⟩ k
  refine calls_at body16 Try.func16 rfl 27 rfl (by simp) fun s hs hds => ?_
  have h0 := hs 0 _ rfl
  have h1 := hs 1 _ rfl
  have h2 := hs 2 _ rfl
  have h3 := hs 3 _ rfl
  clear hs
  refine at_seq rfl fun K1 hK1 => ?_
  (conv => arg 4; whnf)
  refine fw_region_lit rfl ?_
  simp [go_sem, opsF, opF, upF, Region.wanted, Fr.ev, Fr.put, thenE, inBlockE, Oper.semAt, yieldF, h0, h1, h2, h3]
  refine on_kf hK1 [(0, .int .i64 y), (1, .int .i64 (k : Int)), (2, .int .i64 base), (3, .int .i64 cap)] (by simp [h0, h1, h2, h3]) hds ?_
  clear hK1 h0 h1 h2 h3 hds; intro s hs hds
  obtain ⟨h0, h1, h2, h3⟩ := facts4 hs; clear hs
  refine at_seq rfl fun K2 hK2 => ?_
  (conv => arg 4; whnf)
  refine fw_region_lit rfl ?_
  simp [go_sem, opsF, opF, upF, Region.wanted, Fr.ev, Fr.put, thenE, inBlockE, Oper.semAt, yieldF, h0, h1, h2, h3]
  refine (wait_any k base cap w hk).on ?_
  rintro _ w1 ⟨rfl, hw1⟩
  rw [if_pos hwb]
  generalize wv base cap k = v at *
  simp [go_sem, opsF, opF, upF, Region.wanted, Fr.ev, Fr.put, thenE, inBlockE, Oper.semAt, yieldF, h0, h1, h2, h3]
  refine on_kf hK2 [(0, .int .i64 y), (1, .int .i64 (k : Int)), (2, .int .i64 base), (3, .int .i64 cap), (10, .int .i64 v), (11, .int .i64 0)] (by simp [h0, h1, h2, h3]) hds ?_
  clear hK2 h0 h1 h2 h3 hds; intro s hs hds
  obtain ⟨h0, h1, h2, h3, h10, h11⟩ := facts6 hs; clear hs
  refine at_seq rfl fun K3 hK3 => ?_
  refine at_seq rfl fun K4 hK4 => ?_
  (conv => arg 4; whnf)
  refine fw_region_lit rfl ?_
  simp [go_sem, opsF, opF, upF, Region.wanted, Fr.ev, Fr.put, thenE, inBlockE, Oper.semAt, yieldF, h0, h1, h2, h3, h10, h11]
  refine on_kf hK4 [(0, .int .i64 y), (1, .int .i64 (k : Int)), (2, .int .i64 base), (3, .int .i64 cap), (10, .int .i64 v), (11, .int .i64 0), (20, .bool false)] (by simp [h0, h1, h2, h3, h10, h11]) hds ?_
  clear hK4 h0 h1 h2 h3 h10 h11 hds; intro s hs hds
  obtain ⟨h0, h1, h2, h3, h10, h11, h20⟩ := facts7 hs; clear hs
  refine at_false 20 rfl h20 ?_
  refine at_skip rfl ?_
  simp only [inBlockE, thenE]
  refine on_kf hK3 [(0, .int .i64 y), (1, .int .i64 (k : Int)), (2, .int .i64 base), (3, .int .i64 cap), (10, .int .i64 v), (11, .int .i64 0)] (by simp [h0, h1, h2, h3, h10, h11, h20]) hds ?_
  clear hK3 h0 h1 h2 h3 h10 h11 h20 hds; intro s hs hds
  obtain ⟨h0, h1, h2, h3, h10, h11⟩ := facts6 hs; clear hs
  refine at_seq rfl fun K5 hK5 => ?_
  (conv => arg 4; whnf)
  refine fw_region_lit rfl ?_
  simp [go_sem, opsF, opF, upF, Region.wanted, Fr.ev, Fr.put, thenE, inBlockE, Oper.semAt, yieldF, h0, h1, h2, h3, h10, h11]
  refine (later_any y v w1 hy.1 (by omega) (by omega)).on ?_
  rintro _ w2 ⟨rfl, hw2⟩
  simp [go_sem, opsF, opF, upF, Region.wanted, Fr.ev, Fr.put, thenE, inBlockE, Oper.semAt, yieldF, h0, h1, h2, h3, h10, h11]
  refine on_kf hK5 [(0, .int .i64 y), (1, .int .i64 (k : Int)), (2, .int .i64 base), (3, .int .i64 cap), (8, .int .i64 (y + v)), (9, .int .i64 0), (10, .int .i64 v), (11, .int .i64 0)] (by simp [h0, h1, h2, h3, h10, h11]) hds ?_
  clear hK5 h0 h1 h2 h3 h10 h11 hds; intro s hs hds
  obtain ⟨h0, h1, h2, h3, h8, h9, h10, h11⟩ := facts8 hs; clear hs
  refine at_ret rfl (ret_two rfl hds ⟨?_, New.trans hw1 hw2⟩)
  rw [h8, h9]

noncomputable def body17 : Code := Try.f17.body.getD .skip

set_option maxHeartbeats 1000000 in
theorem full_any (last : Nat) (base cap : Int) (w : World) (hk : last ≤ 1000) (hf : 1 ≤ base ∧ base ≤ cap ∧ cap ≤ 1048576) (hlo : ∀ n, n < last → wv base cap n ≠ cap) (hhi : wv base cap last = cap) :
    CallsV Try.prog 17 #[.int .i64 base, .int .i64 cap] w fun v w' => v = .tuple #[.int .i64 (last : Int), .int .i64 0] ∧ New w w' := by
  have hwb : wbad base cap = 0 := by unfold wbad; rw [if_pos hf]
  refine calls_at body17 Try.func17 rfl 24 rfl (by simp) fun s hs hds => ?_
  have h0 := hs 0 _ rfl
  have h1 := hs 1 _ rfl
  clear hs
  refine at_seq rfl fun K6 hK6 => ?_
  (conv => arg 4; whnf)
  refine fw_region_lit rfl ?_
  simp [go_sem, opsF, opF, upF, Region.wanted, Fr.ev, Fr.put, thenE, inBlockE, Oper.semAt, yieldF, h0, h1]
  have hA1 := Frm.alloc (fun _ => False) w (.cells #[.int .i64 cap] 3)
  have hb1 := Blk.new w #[.int .i64 cap] 3
  have hA2 := Frm.alloc (fun _ => False) (w.alloc (.cells #[.int .i64 cap] 3)) (.cells #[.int .i64 0] 3)
  have hb2 := Blk.new (w.alloc (.cells #[.int .i64 cap] 3)) #[.int .i64 0] 3
  have hA3 := Frm.alloc (fun _ => False) ((w.alloc (.cells #[.int .i64 cap] 3)).alloc (.cells #[.int .i64 0] 3)) (.cells #[.int .i64 0] 26)
  have hb3 := Blk.new ((w.alloc (.cells #[.int .i64 cap] 3)).alloc (.cells #[.int .i64 0] 3)) #[.int .i64 0] 26
  simp only [World.size_alloc] at hb2 hb3
  have hw1 := New.trans (New.trans hA1 hA2) hA3
  have hb1' := (hb1.frm hA2 (fun h => h)).frm hA3 (fun h => h)
  have hb2' := hb2.frm hA3 (fun h => h)
  clear hA1 hA2 hA3 hb1 hb2
  obtain ⟨b3, hb3e⟩ : ∃ b3, b3 = w.heap.size := ⟨_, rfl⟩
  refine on_kf hK6 [(0, .int .i64 base), (3, .pointer (some ⟨w.heap.size, 0, none⟩)), (4, .pointer (some ⟨w.heap.size + 1, 0, none⟩)), (5, .pointer (some ⟨w.heap.size + 1 + 1, 0, none⟩))] (by simp [h0, h1]) hds ?_
  clear hK6 h0 h1 hds; intro s hs hds
  obtain ⟨h0, h3, h4, h5⟩ := facts4 hs; clear hs
  generalize ((w.alloc (.cells #[.int .i64 cap] 3)).alloc (.cells #[.int .i64 0] 3)).alloc (.cells #[.int .i64 0] 26) = w1 at *
  obtain ⟨b6, hb6e⟩ : ∃ b6, b6 = w.heap.size + 1 := ⟨_, rfl⟩
  obtain ⟨b7, hb7e⟩ : ∃ b7, b7 = w.heap.size + 1 + 1 := ⟨_, rfl⟩
  rw [← hb7e] at h5 hb3
  rw [← hb6e] at h4 hb2'
  rw [← hb3e] at h3 hb1'
  have x3 := hb1'.cell 0
  simp only [List.getElem?_toArray, List.getElem?_cons_zero, List.getElem?_cons_succ] at x3
  refine at_seq rfl fun K7 hK7 => ?_
  refine at_seq rfl fun K8 hK8 => ?_
  (conv => arg 4; whnf)
  refine fw_region_lit rfl ?_
  simp [go_sem, opsF, opF, upF, Region.wanted, Fr.ev, Fr.put, thenE, inBlockE, Oper.semAt, yieldF, h0, h3, h4, h5, x3]
  refine (wcheck_any base cap w1).on ?_
  rintro _ w2 ⟨rfl, hw2⟩
  rw [hwb]
  refine on_kf hK8 [(0, .int .i64 base), (3, .pointer (some ⟨b3, 0, none⟩)), (4, .pointer (some ⟨b6, 0, none⟩)), (5, .pointer (some ⟨b7, 0, none⟩)), (6, .int .i64 0)] (by simp [h0, h3, h4, h5]) hds ?_
  clear hK8 h0 h3 h4 h5 hds; intro s hs hds
  obtain ⟨h0, h3, h4, h5, h6⟩ := facts5 hs; clear hs
  have B3 := hb1'.frm hw2 (fun h => h)
  have B6 := hb2'.frm hw2 (fun h => h)
  have B7 := hb3.frm hw2 (fun h => h)
  have hW2 := New.trans hw1 hw2
  clear hw1 hw2 hb1' hb2' hb3 x3
  have hsz := hW2.size
  have x3 := B3.cell 0
  simp only [List.getElem?_toArray, List.getElem?_cons_zero, List.getElem?_cons_succ] at x3
  refine at_seq rfl fun K9 hK9 => ?_
  (conv => arg 4; whnf)
  refine fw_region_lit rfl ?_
  simp [go_sem, opsF, opF, upF, Region.wanted, Fr.ev, Fr.put, thenE, inBlockE, Oper.semAt, yieldF, h0, h3, h4, h5, h6]
  refine on_kf hK9 [(0, .int .i64 base), (3, .pointer (some ⟨b3, 0, none⟩)), (4, .pointer (some ⟨b6, 0, none⟩)), (5, .pointer (some ⟨b7, 0, none⟩)), (6, .int .i64 0), (13, .bool false)] (by simp [h0, h3, h4, h5, h6]) hds ?_
  clear hK9 h0 h3 h4 h5 h6 hds; intro s hs hds
  obtain ⟨h0, h3, h4, h5, h6, h13⟩ := facts6 hs; clear hs
  refine at_false 13 rfl h13 ?_
  refine at_skip rfl ?_
  simp only [inBlockE, thenE]
  refine on_kf hK7 [(0, .int .i64 base), (3, .pointer (some ⟨b3, 0, none⟩)), (4, .pointer (some ⟨b6, 0, none⟩)), (5, .pointer (some ⟨b7, 0, none⟩))] (by simp [h0, h3, h4, h5, h6, h13]) hds ?_
  clear hK7 h0 h3 h4 h5 h6 h13 hds; intro s hs hds
  obtain ⟨h0, h3, h4, h5⟩ := facts4 hs; clear hs
  refine at_seq rfl fun K10 hK10 => ?_
  refine at_seq rfl fun K11 hK11 => ?_
  (conv => arg 4; whnf)
  refine fw_region_lit rfl ?_
  simp [go_sem, opsF, opF, upF, Region.wanted, Fr.ev, Fr.put, thenE, inBlockE, Oper.semAt, yieldF, h0, h3, h4, h5, x3]
  refine (waits_any base cap w2).on ?_
  rintro _ w5 ⟨b1, b2, rfl, hw5, g1, g2, D1, D2⟩
  have D3 := B3.frm hw5 (fun h => h)
  have D6 := B6.frm hw5 (fun h => h)
  have D7 := B7.frm hw5 (fun h => h)
  have hW5 := New.trans hW2 hw5
  refine on_kf hK11 [(0, .int .i64 base), (3, .pointer (some ⟨b3, 0, none⟩)), (4, .pointer (some ⟨b6, 0, none⟩)), (5, .pointer (some ⟨b7, 0, none⟩)), (17, .func (.func 29) #[] #[.pointer (some ⟨b1, 0, none⟩), .pointer (some ⟨b2, 0, none⟩)])] (by simp [h0, h3, h4, h5]) hds ?_
  clear hK11 h0 h3 h4 h5 hds; intro s hs hds
  obtain ⟨h0, h3, h4, h5, h17⟩ := facts5 hs; clear hs
  refine at_block 0 rfl ?_
  refine at_range (g := .tmp 17) (ps := #[18, 19]) rfl (gf := 29) (cap := #[.pointer (some ⟨b1, 0, none⟩), .pointer (some ⟨b2, 0, none⟩)]) h17 call29 ?_
  intro fn T wC hT hTg hC hszC hdf hrc
  have hJ0 : WJ w (w5.heap.size + 1) w5.heap.size [(b1, base, 3), (b2, cap, 3), (b3, cap, 3), (b6, 0, 3), (b7, 0, 26)] (recOf fn T #[18, 19] (sub body17 [0,0,1,0,1,1]) (sub body17 [1,0,1,0,1,1]) w5.heap.size) wC := by
    refine ⟨hrc, hdf, ?_, New.trans hW5 hC⟩
    intro c hc
    simp at hc
    rcases hc with rfl | rfl | rfl | rfl | rfl
    · exact D1.frm hC (fun h => h)
    · exact D2.frm hC (fun h => h)
    · exact D3.frm hC (fun h => h)
    · exact D6.frm hC (fun h => h)
    · exact D7.frm hC (fun h => h)
  have n35 : b3 ≠ b6 ∧ b3 ≠ b7 ∧ b6 ≠ b7 ∧ w.heap.size ≤ b6 ∧ w.heap.size ≤ b7 := by omega
  have hLsz : w.heap.size ≤ w5.heap.size + 1 := by have := hW5.size; omega
  have hdsz : w.heap.size ≤ w5.heap.size := by have := hW5.size; omega
  clear D1 D2 D3 D6 D7 B3 B6 B7 hdf hrc hszC hC hw5 hW5 hW2 hsz g1 g2 x3
  generalize w5.heap.size + 1 = L at *
  generalize w5.heap.size = d at *
  refine (waits_it base cap L b1 b2 last (fun _ => WJ w L d [(b1, base, 3), (b2, cap, 3), (b3, cap, 3), (b6, 0, 3), (b7, 0, 26)] (recOf fn T #[18, 19] (sub body17 [0,0,1,0,1,1]) (sub body17 [1,0,1,0,1,1]) d))
    (fun w' => ∃ cs, (b6, (last : Int), 3) ∈ cs ∧ (b7, 0, 26) ∈ cs ∧ WJ w L d cs { (recOf fn T #[18, 19] (sub body17 [0,0,1,0,1,1]) (sub body17 [1,0,1,0,1,1]) d) with state := .done, pending := some .ret } w') wC hf (by omega) (fun n x h => ⟨h.cell (T := 3) (by simp), h.cell (T := 3) (by simp)⟩) (fun _ _ _ h hn => h.frm hn) ?_ hJ0).on ?_
  · intro n wN hn hJ
    refine yieldV_of hJ.rc rfl rfl hT s.t hTg (by simp [recOf]) ?_
    dsimp only [recOf]
    generalize hwv : wv base cap n = v at *
    have hJb := hJ.put { (recOf fn T #[18, 19] (sub body17 [0,0,1,0,1,1]) (sub body17 [1,0,1,0,1,1]) d) with state := .busy } hLsz
    refine reframe [(3, .pointer (some ⟨b3, 0, none⟩)), (4, .pointer (some ⟨b6, 0, none⟩)), (5, .pointer (some ⟨b7, 0, none⟩)), (18, .int .i64 (n : Int)), (19, .int .i64 v)] (by simp [h3, h4, h5]) rfl ?_
    intro s hs hds
    obtain ⟨h3, h4, h5, h18, h19⟩ := facts5 hs; clear hs
    refine at_seq rfl fun K12 hK12 => ?_
    (conv => arg 4; whnf)
    refine fw_region_lit rfl ?_
    simp [go_sem, opsF, opF, upF, Region.wanted, Fr.ev, Fr.put, thenE, inBlockE, Oper.semAt, yieldF, h3, h4, h5, h18, h19]
    refine on_kf hK12 [(3, .pointer (some ⟨b3, 0, none⟩)), (4, .pointer (some ⟨b6, 0, none⟩)), (5, .pointer (some ⟨b7, 0, none⟩)), (7, .int .i64 (n : Int)), (18, .int .i64 (n : Int)), (19, .int .i64 v)] (by simp [h3, h4, h5, h18, h19]) hds ?_
    clear hK12 h3 h4 h5 h18 h19 hds; intro s hs hds
    obtain ⟨h3, h4, h5, h7, h18, h19⟩ := facts6 hs; clear hs
    (conv => arg 4; whnf)
    refine fw_region_lit rfl ?_
    simp [go_sem, opsF, opF, upF, Region.wanted, Fr.ev, Fr.put, thenE, inBlockE, Oper.semAt, yieldF, h3, h4, h5, h7, h18, h19]
    refine ⟨rfl, _, hJ.rc, rfl, ?_⟩
    refine reframe [(3, .pointer (some ⟨b3, 0, none⟩)), (4, .pointer (some ⟨b6, 0, none⟩)), (5, .pointer (some ⟨b7, 0, none⟩)), (7, .int .i64 (n : Int)), (8, .int .i64 v)] (by simp [h3, h4, h5, h7, h18, h19]) hds ?_
    intro s hs hds
    obtain ⟨h3, h4, h5, h7, h8⟩ := facts5 hs; clear hs
    dsimp only [recOf] at *
    generalize wN.putObj L (.loop { state := .busy, pending := none, fn := fn, tmps := T, params := #[18, 19], assign := sub body17 [0,0,1,0,1,1], body := sub body17 [1,0,1,0,1,1], defers := d }) = wM at *
    have x3 : wM.cell? ⟨b3, 0, none⟩ = some (.int .i64 cap) := hJb.cell (T := 3) (by simp)
    have x6 : wM.cell? ⟨b6, 0, none⟩ = some (.int .i64 0) := hJb.cell (T := 3) (by simp)
    have f6 : wM.frozen? ⟨b6, 0, none⟩ = false := hJb.frozen (v := 0) (T := 3) (by simp)
    refine at_block 1 rfl ?_
    refine at_seq rfl fun K13 hK13 => ?_
    by_cases he : n = last
    · have hvc : v = cap := by rw [← hwv, he]; exact hhi
      have he' : (v == cap) = true := by simp [hvc]
      (conv => arg 4; whnf)
      refine fw_region_lit rfl ?_
      simp [go_sem, opsF, opF, upF, Region.wanted, Fr.ev, Fr.put, thenE, inBlockE, Oper.semAt, yieldF, h3, h4, h5, h7, h8, x3, he']
      refine on_kf hK13 [(3, .pointer (some ⟨b3, 0, none⟩)), (4, .pointer (some ⟨b6, 0, none⟩)), (5, .pointer (some ⟨b7, 0, none⟩)), (7, .int .i64 (n : Int)), (8, .int .i64 v), (22, .bool true)] (by simp [h3, h4, h5, h7, h8]) hds ?_
      clear hK13 h3 h4 h5 h7 h8 hds; intro s hs hds
      obtain ⟨h3, h4, h5, h7, h8, h22⟩ := facts6 hs; clear hs
      refine at_true 22 rfl h22 ?_
      have hJ6 := hJb.set (b := b6) (v := 0) (T := 3) (by simp) n35.2.2.2.1 (n : Int)
      have m6 := mem_same (v' := (n : Int)) (show (b6, (0 : Int), 3) ∈ [(b1, base, 3), (b2, cap, 3), (b3, cap, 3), (b6, 0, 3), (b7, 0, 26)] by simp)
      have m7 := mem_other (b := b6) (v' := (n : Int)) (show (b7, (0 : Int), 26) ∈ [(b1, base, 3), (b2, cap, 3), (b3, cap, 3), (b6, 0, 3), (b7, 0, 26)] by simp) (by omega)
      have x7 : (wM.setCell ⟨b6, 0, none⟩ (.int .i64 (n : Int))).cell? ⟨b7, 0, none⟩ = some (.int .i64 0) := hJ6.cell (T := 26) m7
      have f7 : (wM.setCell ⟨b6, 0, none⟩ (.int .i64 (n : Int))).frozen? ⟨b7, 0, none⟩ = false := hJ6.frozen m7
      have hJ7 := hJ6.set m7 n35.2.2.2.2 0
      refine at_seq rfl fun K14 hK14 => ?_
      (conv => arg 4; whnf)
      refine fw_region_lit rfl ?_
      simp [go_sem, opsF, opF, upF, Region.wanted, Fr.ev, Fr.put, thenE, inBlockE, Oper.semAt, yieldF, h3, h4, h5, h7, h8, h22, x6, f6, x7, f7]
      refine on_kf hK14 [(3, .pointer (some ⟨b3, 0, none⟩)), (4, .pointer (some ⟨b6, 0, none⟩)), (5, .pointer (some ⟨b7, 0, none⟩)), (7, .int .i64 (n : Int)), (8, .int .i64 v), (22, .bool true)] (by simp [h3, h4, h5, h7, h8, h22]) hds ?_
      clear hK14 h3 h4 h5 h7 h8 h22 hds; intro s hs hds
      obtain ⟨h3, h4, h5, h7, h8, h22⟩ := facts6 hs; clear hs
      refine at_ret rfl ?_
      simp only [inBlockE, thenE]
      refine ⟨_, hJ7.rc, .inr ⟨he, rfl, _, ?_, ?_, hJ7.put _ hLsz⟩⟩
      · subst he
        exact mem_other m6 (by omega)
      · exact mem_same m7
    · have he' : (v == cap) = false := by
        rw [beq_eq_false_iff_ne, ← hwv]
        exact hlo n (by omega)
      (conv => arg 4; whnf)
      refine fw_region_lit rfl ?_
      simp [go_sem, opsF, opF, upF, Region.wanted, Fr.ev, Fr.put, thenE, inBlockE, Oper.semAt, yieldF, h3, h4, h5, h7, h8, x3, he']
      refine on_kf hK13 [(3, .pointer (some ⟨b3, 0, none⟩)), (4, .pointer (some ⟨b6, 0, none⟩)), (5, .pointer (some ⟨b7, 0, none⟩)), (7, .int .i64 (n : Int)), (8, .int .i64 v), (22, .bool false)] (by simp [h3, h4, h5, h7, h8]) hds ?_
      clear hK13 h3 h4 h5 h7 h8 hds; intro s hs hds
      obtain ⟨h3, h4, h5, h7, h8, h22⟩ := facts6 hs; clear hs
      refine at_false 22 rfl h22 ?_
      refine at_skip rfl ?_
      simp only [inBlockE, thenE]
      exact ⟨_, hJb.rc, .inl ⟨by omega, rfl, hJb.put _ hLsz⟩⟩
  · rintro _ wE ⟨cs, m6, m7, hE⟩
    refine ⟨_, hE.rc, by simp, ?_⟩
    dsimp only [recOf]
    have hE2 := hE.put { (recOf fn T #[18, 19] (sub body17 [0,0,1,0,1,1]) (sub body17 [1,0,1,0,1,1]) d) with state := .exhausted, pending := some .ret } hLsz
    dsimp only [recOf] at hE2
    generalize wE.putObj L (.loop { state := .exhausted, pending := some .ret, fn := fn, tmps := T, params := #[18, 19], assign := sub body17 [0,0,1,0,1,1], body := sub body17 [1,0,1,0,1,1], defers := d }) = wF at *
    refine fw_ret ?_
    simp only [inBlockE, thenE]
    show leaveF _ _ _ _ (_ :: s.ds) _
    rw [hds]
    have hput := Frm.putObj (S := fun b => b = d) wF d (.deferred none) rfl
    have dn : ∀ b v T', (b, v, T') ∈ cs → b ≠ d := by
      intro b v T' hc e
      have h1 : wF.heap[b]? = _ := hE2.bl _ hc
      rw [e, hE2.df] at h1
      cases h1
    have z6 := ((hE2.bl _ m6).frm hput (dn _ _ _ m6)).cell 0
    have z7 := ((hE2.bl _ m7).frm hput (dn _ _ _ m7)).cell 0
    simp at z6 z7
    refine ⟨_, rfl, hE2.df, .tuple #[.int .i64 (last : Int), .int .i64 0], ?_, rfl, Frm.trans hE2.nw hput (fun b hb e => by omega)⟩
    simp [resF, Try.results17, h4, h5, go_sem, z6, z7]
end Go.Proofs.Ytiejaopidkghdab
