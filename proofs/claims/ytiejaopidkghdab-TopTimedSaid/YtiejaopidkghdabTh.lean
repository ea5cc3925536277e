/- The wait with so many strikes. -/
import Derived.Test.YtiejaopidkghdabTg
namespace Go.Proofs.Ytiejaopidkghdab
set_option linter.unusedSimpArgs false
set_option linter.unusedVariables false
open Go.RowKit Go.Lf

/-- What holds between two rounds of a range over waits: the numbers in blocks, and the range's record. -/
structure WJ (w0 : World) (L d : Nat) (cs : List (Nat × Int × Nat)) (rec : Loop) (w : World) : Prop where
  rc : w.heap[L]? = some (.loop rec)
  df : w.heap[d]? = some (.deferred (some []))
  bl : ∀ c ∈ cs, Blk w c.1 #[.int .i64 c.2.1] c.2.2
  nw : New w0 w

theorem WJ.frm {w0 w w' : World} {L d : Nat} {cs : List (Nat × Int × Nat)} {rec : Loop} (h : WJ w0 L d cs rec w) (hf : New w w') : WJ w0 L d cs rec w' :=
  ⟨(hf.block L (Array.getElem?_eq_some_iff.1 h.rc).1 (fun h => h)).trans h.rc, (hf.block d (Array.getElem?_eq_some_iff.1 h.df).1 (fun h => h)).trans h.df, fun c hc => (h.bl c hc).frm hf (fun h => h), New.trans h.nw hf⟩

theorem WJ.put {w0 w : World} {L d : Nat} {cs : List (Nat × Int × Nat)} {rec : Loop} (h : WJ w0 L d cs rec w) (rec' : Loop) (hL : w0.heap.size ≤ L) : WJ w0 L d cs rec' (w.putObj L (.loop rec')) := by
  have hlt := (Array.getElem?_eq_some_iff.1 h.rc).1
  have hP := Frm.putObj (S := fun b => b = L) w L (.loop rec') rfl
  refine ⟨World.putObj_heap_same hlt, (hP.block d (Array.getElem?_eq_some_iff.1 h.df).1 ?_).trans h.df, fun c hc => (h.bl c hc).frm hP ?_, Frm.trans h.nw hP (fun b hb e => by omega)⟩
  · intro e
    have := h.df
    rw [e, h.rc] at this
    cases this
  · intro e
    have : w.heap[c.1]? = _ := h.bl c hc
    rw [e, h.rc] at this
    cases this

theorem WJ.cell {w0 w : World} {L d : Nat} {cs : List (Nat × Int × Nat)} {rec : Loop} (h : WJ w0 L d cs rec w) {b : Nat} {v : Int} {T : Nat} (hc : (b, v, T) ∈ cs) : w.cell? ⟨b, 0, none⟩ = some (.int .i64 v) := (h.bl _ hc).cell 0
theorem WJ.frozen {w0 w : World} {L d : Nat} {cs : List (Nat × Int × Nat)} {rec : Loop} (h : WJ w0 L d cs rec w) {b : Nat} {v : Int} {T : Nat} (hc : (b, v, T) ∈ cs) : w.frozen? ⟨b, 0, none⟩ = false := (h.bl _ hc).frozen 0

theorem WJ.set {w0 w : World} {L d : Nat} {cs : List (Nat × Int × Nat)} {rec : Loop} (h : WJ w0 L d cs rec w) {b : Nat} {v : Int} {T : Nat} (hc : (b, v, T) ∈ cs) (hb : w0.heap.size ≤ b) (v' : Int) :
    WJ w0 L d (cs.map fun c => if c.1 = b then (b, v', c.2.2) else c) rec (w.setCell ⟨b, 0, none⟩ (.int .i64 v')) := by
  have hS := Frm.setCell (S := fun k => k = b) w ⟨b, 0, none⟩ (.int .i64 v') rfl
  have hbb : w.heap[b]? = _ := h.bl _ hc
  refine ⟨(hS.block L (Array.getElem?_eq_some_iff.1 h.rc).1 ?_).trans h.rc, (hS.block d (Array.getElem?_eq_some_iff.1 h.df).1 ?_).trans h.df, ?_, Frm.trans h.nw hS (fun k hk e => by omega)⟩
  · intro e
    have := h.rc
    rw [e, hbb] at this
    cases this
  · intro e
    have := h.df
    rw [e, hbb] at this
    cases this
  · intro c hc'
    rw [List.mem_map] at hc'
    obtain ⟨x, hx, rfl⟩ := hc'
    by_cases he : x.1 = b
    · rw [if_pos he]
      have hxb := h.bl x hx
      rw [he] at hxb
      have := hxb.set 0 (.int .i64 v')
      exact this
    · rw [if_neg he]
      exact (h.bl x hx).frm hS he

theorem mem_other {cs : List (Nat × Int × Nat)} {b b' : Nat} {v v' : Int} {T : Nat} (h : (b', v, T) ∈ cs) (hne : b' ≠ b) : (b', v, T) ∈ cs.map fun c => if c.1 = b then (b, v', c.2.2) else c :=
  List.mem_map.2 ⟨_, h, if_neg hne⟩
theorem mem_same {cs : List (Nat × Int × Nat)} {b : Nat} {v v' : Int} {T : Nat} (h : (b, v, T) ∈ cs) : (b, v', T) ∈ cs.map fun c => if c.1 = b then (b, v', c.2.2) else c :=
  List.mem_map.2 ⟨_, h, if_pos rfl⟩

theorem call29 (args : Array Value) (w : World) : (callFunc 29 args).run Try.prog w = .ok (.enter 29 args) w := by
  simp [go_sem]

noncomputable def body14 : Code := Try.f14.body.getD .skip

set_option maxHeartbeats 1000000 in
theorem wait_any (k : Nat) (base cap : Int) (w : World) (hk : k ≤ 1000) :
    CallsV Try.prog 14 #[.int .i64 (k : Int), .int .i64 base, .int .i64 cap] w fun v w' => v = (if wbad base cap = 0 then .tuple #[.int .i64 (wv base cap k), .int .i64 0] else .tuple #[.int .i64 0, .int .i64 3]) ∧ New w w' := by
  refine calls_at body14 Try.func14 rfl 33 rfl (by simp) fun s hs hds => ?_
  have h0 := hs 0 _ rfl
  have h1 := hs 1 _ rfl
  have h2 := hs 2 _ rfl
  clear hs
  refine at_seq rfl fun K1 hK1 => ?_
  (conv => arg 4; whnf)
  refine fw_region_lit rfl ?_
  simp [go_sem, opsF, opF, upF, Region.wanted, Fr.ev, Fr.put, thenE, inBlockE, Oper.semAt, yieldF, h0, h1, h2]
  have hA1 := Frm.alloc (fun _ => False) w (.cells #[.int .i64 (k : Int)] 3)
  have hb1 := Blk.new w #[.int .i64 (k : Int)] 3
  have hA2 := Frm.alloc (fun _ => False) (w.alloc (.cells #[.int .i64 (k : Int)] 3)) (.cells #[.int .i64 0] 3)
  have hb2 := Blk.new (w.alloc (.cells #[.int .i64 (k : Int)] 3)) #[.int .i64 0] 3
  have hA3 := Frm.alloc (fun _ => False) ((w.alloc (.cells #[.int .i64 (k : Int)] 3)).alloc (.cells #[.int .i64 0] 3)) (.cells #[.int .i64 0] 26)
  have hb3 := Blk.new ((w.alloc (.cells #[.int .i64 (k : Int)] 3)).alloc (.cells #[.int .i64 0] 3)) #[.int .i64 0] 26
  simp only [World.size_alloc] at hb2 hb3
  have hw1 := New.trans (New.trans hA1 hA2) hA3
  have hb1' := (hb1.frm hA2 (fun h => h)).frm hA3 (fun h => h)
  have hb2' := hb2.frm hA3 (fun h => h)
  clear hA1 hA2 hA3 hb1 hb2
  obtain ⟨b3, hb3e⟩ : ∃ b3, b3 = w.heap.size := ⟨_, rfl⟩
  refine on_kf hK1 [(1, .int .i64 base), (2, .int .i64 cap), (3, .pointer (some ⟨w.heap.size, 0, none⟩)), (6, .pointer (some ⟨w.heap.size + 1, 0, none⟩)), (7, .pointer (some ⟨w.heap.size + 1 + 1, 0, none⟩))] (by simp [h0, h1, h2]) hds ?_
  clear hK1 h0 h1 h2 hds; intro s hs hds
  obtain ⟨h1, h2, h3, h6, h7⟩ := facts5 hs; clear hs
  generalize ((w.alloc (.cells #[.int .i64 (k : Int)] 3)).alloc (.cells #[.int .i64 0] 3)).alloc (.cells #[.int .i64 0] 26) = w1 at *
  obtain ⟨b6, hb6e⟩ : ∃ b6, b6 = w.heap.size + 1 := ⟨_, rfl⟩
  obtain ⟨b7, hb7e⟩ : ∃ b7, b7 = w.heap.size + 1 + 1 := ⟨_, rfl⟩
  rw [← hb7e] at h7 hb3
  rw [← hb6e] at h6 hb2'
  rw [← hb3e] at h3 hb1'
  refine at_seq rfl fun K2 hK2 => ?_
  refine at_seq rfl fun K3 hK3 => ?_
  (conv => arg 4; whnf)
  refine fw_region_lit rfl ?_
  simp [go_sem, opsF, opF, upF, Region.wanted, Fr.ev, Fr.put, thenE, inBlockE, Oper.semAt, yieldF, h1, h2, h3, h6, h7]
  refine (wcheck_any base cap w1).on ?_
  rintro _ w2 ⟨rfl, hw2⟩
  refine on_kf hK3 [(1, .int .i64 base), (2, .int .i64 cap), (3, .pointer (some ⟨b3, 0, none⟩)), (6, .pointer (some ⟨b6, 0, none⟩)), (7, .pointer (some ⟨b7, 0, none⟩)), (8, .int .i64 (wbad base cap))] (by simp [h1, h2, h3, h6, h7]) hds ?_
  clear hK3 h1 h2 h3 h6 h7 hds; intro s hs hds
  obtain ⟨h1, h2, h3, h6, h7, h8⟩ := facts6 hs; clear hs
  have B3 := hb1'.frm hw2 (fun h => h)
  have B6 := hb2'.frm hw2 (fun h => h)
  have B7 := hb3.frm hw2 (fun h => h)
  have hW2 := New.trans hw1 hw2
  clear hw1 hw2 hb1' hb2' hb3
  have hsz := hW2.size
  refine at_seq rfl fun K4 hK4 => ?_
  by_cases hf : 1 ≤ base ∧ base ≤ cap ∧ cap ≤ 1048576
  · have hwb : wbad base cap = 0 := by unfold wbad; rw [if_pos hf]
    rw [hwb] at h8
    (conv => arg 4; whnf)
    refine fw_region_lit rfl ?_
    simp [go_sem, opsF, opF, upF, Region.wanted, Fr.ev, Fr.put, thenE, inBlockE, Oper.semAt, yieldF, h1, h2, h3, h6, h7, h8]
    refine on_kf hK4 [(1, .int .i64 base), (2, .int .i64 cap), (3, .pointer (some ⟨b3, 0, none⟩)), (6, .pointer (some ⟨b6, 0, none⟩)), (7, .pointer (some ⟨b7, 0, none⟩)), (8, .int .i64 0), (15, .bool false)] (by simp [h1, h2, h3, h6, h7, h8]) hds ?_
    clear hK4 h1 h2 h3 h6 h7 h8 hds; intro s hs hds
    obtain ⟨h1, h2, h3, h6, h7, h8, h15⟩ := facts7 hs; clear hs
    refine at_false 15 rfl h15 ?_
    refine at_skip rfl ?_
    simp only [inBlockE, thenE]
    refine on_kf hK2 [(1, .int .i64 base), (2, .int .i64 cap), (3, .pointer (some ⟨b3, 0, none⟩)), (6, .pointer (some ⟨b6, 0, none⟩)), (7, .pointer (some ⟨b7, 0, none⟩))] (by simp [h1, h2, h3, h6, h7, h8, h15]) hds ?_
    clear hK2 h1 h2 h3 h6 h7 h8 h15 hds; intro s hs hds
    obtain ⟨h1, h2, h3, h6, h7⟩ := facts5 hs; clear hs
    have x3 := B3.cell 0
    simp only [List.getElem?_toArray, List.getElem?_cons_zero, List.getElem?_cons_succ] at x3
    have e1 : (k : Int) ≤ 1000 := by omega
    refine at_seq rfl fun K5 hK5 => ?_
    refine at_seq rfl fun K6 hK6 => ?_
    (conv => arg 4; whnf)
    refine fw_region_lit rfl ?_
    simp [go_sem, opsF, opF, upF, Region.wanted, Fr.ev, Fr.put, thenE, inBlockE, Oper.semAt, yieldF, h1, h2, h3, h6, h7, x3, e1]
    have hA := Frm.alloc (fun _ => False) w2 (.cells #[.bool true, .bool true] 4)
    have hbl := Blk.new w2 #[.bool true, .bool true] 4
    refine (all_any w2.heap.size [true, true] 4 _ hbl (by simp)).on ?_
    rintro _ w3 ⟨rfl, rfl⟩
    simp [go_sem, opsF, opF, upF, Region.wanted, Fr.ev, Fr.put, thenE, inBlockE, Oper.semAt, yieldF, h1, h2, h3, h6, h7]
    refine on_kf hK6 [(1, .int .i64 base), (2, .int .i64 cap), (3, .pointer (some ⟨b3, 0, none⟩)), (6, .pointer (some ⟨b6, 0, none⟩)), (7, .pointer (some ⟨b7, 0, none⟩)), (23, .bool false)] (by simp [h1, h2, h3, h6, h7]) hds ?_
    clear hK6 h1 h2 h3 h6 h7 hds; intro s hs hds
    obtain ⟨h1, h2, h3, h6, h7, h23⟩ := facts6 hs; clear hs
    refine at_false 23 rfl h23 ?_
    refine at_skip rfl ?_
    simp only [inBlockE, thenE]
    refine on_kf hK5 [(1, .int .i64 base), (2, .int .i64 cap), (3, .pointer (some ⟨b3, 0, none⟩)), (6, .pointer (some ⟨b6, 0, none⟩)), (7, .pointer (some ⟨b7, 0, none⟩))] (by simp [h1, h2, h3, h6, h7, h23]) hds ?_
    clear hK5 h1 h2 h3 h6 h7 h23 hds; intro s hs hds
    obtain ⟨h1, h2, h3, h6, h7⟩ := facts5 hs; clear hs
    have C3 := B3.frm hA (fun h => h)
    have C6 := B6.frm hA (fun h => h)
    have C7 := B7.frm hA (fun h => h)
    have hW3 := New.trans hW2 hA
    clear hA hbl x3 B3 B6 B7
    generalize w2.alloc (.cells #[.bool true, .bool true] 4) = w3 at *
    refine at_seq rfl fun K7 hK7 => ?_
    refine at_seq rfl fun K8 hK8 => ?_
    (conv => arg 4; whnf)
    refine fw_region_lit rfl ?_
    simp [go_sem, opsF, opF, upF, Region.wanted, Fr.ev, Fr.put, thenE, inBlockE, Oper.semAt, yieldF, h1, h2, h3, h6, h7]
    refine (waits_any base cap w3).on ?_
    rintro _ w5 ⟨b1, b2, rfl, hw5, g1, g2, D1, D2⟩
    have D3 := C3.frm hw5 (fun h => h)
    have D6 := C6.frm hw5 (fun h => h)
    have D7 := C7.frm hw5 (fun h => h)
    have hW5 := New.trans hW3 hw5
    refine on_kf hK8 [(1, .int .i64 base), (2, .int .i64 cap), (3, .pointer (some ⟨b3, 0, none⟩)), (6, .pointer (some ⟨b6, 0, none⟩)), (7, .pointer (some ⟨b7, 0, none⟩)), (26, .func (.func 29) #[] #[.pointer (some ⟨b1, 0, none⟩), .pointer (some ⟨b2, 0, none⟩)])] (by simp [h1, h2, h3, h6, h7]) hds ?_
    clear hK8 h1 h2 h3 h6 h7 hds; intro s hs hds
    obtain ⟨h1, h2, h3, h6, h7, h26⟩ := facts6 hs; clear hs
    refine at_block 0 rfl ?_
    refine at_range (g := .tmp 26) (ps := #[27, 28]) rfl (gf := 29) (cap := #[.pointer (some ⟨b1, 0, none⟩), .pointer (some ⟨b2, 0, none⟩)]) h26 call29 ?_
    intro fn T wC hT hTg hC hszC hdf hrc
    have hJ0 : WJ w (w5.heap.size + 1) w5.heap.size [(b1, base, 3), (b2, cap, 3), (b3, (k : Int), 3), (b6, 0, 3), (b7, 0, 26)] (recOf fn T #[27, 28] (sub body14 [0,0,1,0,1,1,1]) (sub body14 [1,0,1,0,1,1,1]) w5.heap.size) wC := by
      refine ⟨hrc, hdf, ?_, New.trans hW5 hC⟩
      intro c hc
      simp at hc
      rcases hc with rfl | rfl | rfl | rfl | rfl
      · exact D1.frm hC (fun h => h)
      · exact D2.frm hC (fun h => h)
      · exact D3.frm hC (fun h => h)
      · exact D6.frm hC (fun h => h)
      · exact D7.frm hC (fun h => h)
    have n35 : b3 ≠ b6 ∧ b3 ≠ b7 ∧ b6 ≠ b7 ∧ w.heap.size ≤ b6 ∧ w.heap.size ≤ b7 := by omega
    have hLsz : w.heap.size ≤ w5.heap.size + 1 := by have := hW5.size; omega
    have hdsz : w.heap.size ≤ w5.heap.size := by have := hW5.size; omega
    have hdL : w5.heap.size ≠ w5.heap.size + 1 := by omega
    clear D1 D2 D3 D6 D7 C3 C6 C7 hdf hrc hszC hC hw5 hW5 hW3 hW2 hsz g1 g2
    generalize w5.heap.size + 1 = L at *
    generalize w5.heap.size = d at *
    refine (waits_it base cap L b1 b2 k (fun _ => WJ w L d [(b1, base, 3), (b2, cap, 3), (b3, (k : Int), 3), (b6, 0, 3), (b7, 0, 26)] (recOf fn T #[27, 28] (sub body14 [0,0,1,0,1,1,1]) (sub body14 [1,0,1,0,1,1,1]) d))
      (fun w' => ∃ cs, (b6, wv base cap k, 3) ∈ cs ∧ (b7, 0, 26) ∈ cs ∧ WJ w L d cs { (recOf fn T #[27, 28] (sub body14 [0,0,1,0,1,1,1]) (sub body14 [1,0,1,0,1,1,1]) d) with state := .done, pending := some .ret } w') wC hf (by omega) (fun n x h => ⟨h.cell (T := 3) (by simp), h.cell (T := 3) (by simp)⟩) (fun _ _ _ h hn => h.frm hn) ?_ hJ0).on ?_
    · intro n wN hn hJ
      refine yieldV_of hJ.rc rfl rfl hT s.t hTg (by simp [recOf]) ?_
      dsimp only [recOf]
      generalize hwv : wv base cap n = v at *
      have hJb := hJ.put { (recOf fn T #[27, 28] (sub body14 [0,0,1,0,1,1,1]) (sub body14 [1,0,1,0,1,1,1]) d) with state := .busy } hLsz
      refine reframe [(3, .pointer (some ⟨b3, 0, none⟩)), (6, .pointer (some ⟨b6, 0, none⟩)), (7, .pointer (some ⟨b7, 0, none⟩)), (27, .int .i64 (n : Int)), (28, .int .i64 v)] (by simp [h3, h6, h7]) rfl ?_
      intro s hs hds
      obtain ⟨h3, h6, h7, h27, h28⟩ := facts5 hs; clear hs
      refine at_seq rfl fun K9 hK9 => ?_
      (conv => arg 4; whnf)
      refine fw_region_lit rfl ?_
      simp [go_sem, opsF, opF, upF, Region.wanted, Fr.ev, Fr.put, thenE, inBlockE, Oper.semAt, yieldF, h3, h6, h7, h27, h28]
      refine on_kf hK9 [(3, .pointer (some ⟨b3, 0, none⟩)), (6, .pointer (some ⟨b6, 0, none⟩)), (7, .pointer (some ⟨b7, 0, none⟩)), (9, .int .i64 (n : Int)), (27, .int .i64 (n : Int)), (28, .int .i64 v)] (by simp [h3, h6, h7, h27, h28]) hds ?_
      clear hK9 h3 h6 h7 h27 h28 hds; intro s hs hds
      obtain ⟨h3, h6, h7, h9, h27, h28⟩ := facts6 hs; clear hs
      (conv => arg 4; whnf)
      refine fw_region_lit rfl ?_
      simp [go_sem, opsF, opF, upF, Region.wanted, Fr.ev, Fr.put, thenE, inBlockE, Oper.semAt, yieldF, h3, h6, h7, h9, h27, h28]
      refine ⟨rfl, _, hJ.rc, rfl, ?_⟩
      refine reframe [(3, .pointer (some ⟨b3, 0, none⟩)), (6, .pointer (some ⟨b6, 0, none⟩)), (7, .pointer (some ⟨b7, 0, none⟩)), (9, .int .i64 (n : Int)), (10, .int .i64 v)] (by simp [h3, h6, h7, h9, h27, h28]) hds ?_
      intro s hs hds
      obtain ⟨h3, h6, h7, h9, h10⟩ := facts5 hs; clear hs
      dsimp only [recOf] at *
      generalize wN.putObj L (.loop { state := .busy, pending := none, fn := fn, tmps := T, params := #[27, 28], assign := sub body14 [0,0,1,0,1,1,1], body := sub body14 [1,0,1,0,1,1,1], defers := d }) = wM at *
      have x3 : wM.cell? ⟨b3, 0, none⟩ = some (.int .i64 (k : Int)) := hJb.cell (T := 3) (by simp)
      have x6 : wM.cell? ⟨b6, 0, none⟩ = some (.int .i64 0) := hJb.cell (T := 3) (by simp)
      have f6 : wM.frozen? ⟨b6, 0, none⟩ = false := hJb.frozen (v := 0) (T := 3) (by simp)
      refine at_block 1 rfl ?_
      refine at_seq rfl fun K10 hK10 => ?_
      by_cases he : n = k
      · have he' : ((n : Int) == (k : Int)) = true := by simp [he]
        (conv => arg 4; whnf)
        refine fw_region_lit rfl ?_
        simp [go_sem, opsF, opF, upF, Region.wanted, Fr.ev, Fr.put, thenE, inBlockE, Oper.semAt, yieldF, h3, h6, h7, h9, h10, x3, he']
        refine on_kf hK10 [(3, .pointer (some ⟨b3, 0, none⟩)), (6, .pointer (some ⟨b6, 0, none⟩)), (7, .pointer (some ⟨b7, 0, none⟩)), (9, .int .i64 (n : Int)), (10, .int .i64 v), (31, .bool true)] (by simp [h3, h6, h7, h9, h10]) hds ?_
        clear hK10 h3 h6 h7 h9 h10 hds; intro s hs hds
        obtain ⟨h3, h6, h7, h9, h10, h31⟩ := facts6 hs; clear hs
        refine at_true 31 rfl h31 ?_
        have hJ6 := hJb.set (b := b6) (v := 0) (T := 3) (by simp) n35.2.2.2.1 v
        have m6 := mem_same (v' := v) (show (b6, (0 : Int), 3) ∈ [(b1, base, 3), (b2, cap, 3), (b3, (k : Int), 3), (b6, 0, 3), (b7, 0, 26)] by simp)
        have m7 := mem_other (b := b6) (v' := v) (show (b7, (0 : Int), 26) ∈ [(b1, base, 3), (b2, cap, 3), (b3, (k : Int), 3), (b6, 0, 3), (b7, 0, 26)] by simp) (by omega)
        have x7 : (wM.setCell ⟨b6, 0, none⟩ (.int .i64 v)).cell? ⟨b7, 0, none⟩ = some (.int .i64 0) := hJ6.cell (T := 26) m7
        have f7 : (wM.setCell ⟨b6, 0, none⟩ (.int .i64 v)).frozen? ⟨b7, 0, none⟩ = false := hJ6.frozen m7
        have hJ7 := hJ6.set m7 n35.2.2.2.2 0
        refine at_seq rfl fun K11 hK11 => ?_
        (conv => arg 4; whnf)
        refine fw_region_lit rfl ?_
        simp [go_sem, opsF, opF, upF, Region.wanted, Fr.ev, Fr.put, thenE, inBlockE, Oper.semAt, yieldF, h3, h6, h7, h9, h10, h31, x6, f6, x7, f7]
        refine on_kf hK11 [(3, .pointer (some ⟨b3, 0, none⟩)), (6, .pointer (some ⟨b6, 0, none⟩)), (7, .pointer (some ⟨b7, 0, none⟩)), (9, .int .i64 (n : Int)), (10, .int .i64 v), (31, .bool true)] (by simp [h3, h6, h7, h9, h10, h31]) hds ?_
        clear hK11 h3 h6 h7 h9 h10 h31 hds; intro s hs hds
        obtain ⟨h3, h6, h7, h9, h10, h31⟩ := facts6 hs; clear hs
        refine at_ret rfl ?_
        simp only [inBlockE, thenE]
        refine ⟨_, hJ7.rc, .inr ⟨he, rfl, _, ?_, ?_, hJ7.put _ hLsz⟩⟩
        · subst he
          rw [hwv]
          exact mem_other m6 (by omega)
        · exact mem_same m7
      · have he' : ((n : Int) == (k : Int)) = false := by
          rw [beq_eq_false_iff_ne]
          omega
        (conv => arg 4; whnf)
        refine fw_region_lit rfl ?_
        simp [go_sem, opsF, opF, upF, Region.wanted, Fr.ev, Fr.put, thenE, inBlockE, Oper.semAt, yieldF, h3, h6, h7, h9, h10, x3, he']
        refine on_kf hK10 [(3, .pointer (some ⟨b3, 0, none⟩)), (6, .pointer (some ⟨b6, 0, none⟩)), (7, .pointer (some ⟨b7, 0, none⟩)), (9, .int .i64 (n : Int)), (10, .int .i64 v), (31, .bool false)] (by simp [h3, h6, h7, h9, h10]) hds ?_
        clear hK10 h3 h6 h7 h9 h10 hds; intro s hs hds
        obtain ⟨h3, h6, h7, h9, h10, h31⟩ := facts6 hs; clear hs
        refine at_false 31 rfl h31 ?_
        refine at_skip rfl ?_
        simp only [inBlockE, thenE]
        exact ⟨_, hJb.rc, .inl ⟨by omega, rfl, hJb.put _ hLsz⟩⟩
    · rintro _ wE ⟨cs, m6, m7, hE⟩
      refine ⟨_, hE.rc, by simp, ?_⟩
      dsimp only [recOf]
      have hE2 := hE.put { (recOf fn T #[27, 28] (sub body14 [0,0,1,0,1,1,1]) (sub body14 [1,0,1,0,1,1,1]) d) with state := .exhausted, pending := some .ret } hLsz
      dsimp only [recOf] at hE2
      generalize wE.putObj L (.loop { state := .exhausted, pending := some .ret, fn := fn, tmps := T, params := #[27, 28], assign := sub body14 [0,0,1,0,1,1,1], body := sub body14 [1,0,1,0,1,1,1], defers := d }) = wF at *
      refine fw_ret ?_
      simp only [inBlockE, thenE]
      show leaveF _ _ _ _ (_ :: s.ds) _
      rw [hds]
      have hput := Frm.putObj (S := fun b => b = d) wF d (.deferred none) rfl
      have dn : ∀ b v T', (b, v, T') ∈ cs → b ≠ d := by
        intro b v T' hc e
        have h1 : wF.heap[b]? = _ := hE2.bl _ hc
        rw [e, hE2.df] at h1
        cases h1
      have z6 := ((hE2.bl _ m6).frm hput (dn _ _ _ m6)).cell 0
      have z7 := ((hE2.bl _ m7).frm hput (dn _ _ _ m7)).cell 0
      simp at z6 z7
      refine ⟨_, rfl, hE2.df, .tuple #[.int .i64 (wv base cap k), .int .i64 0], ?_, ?_, Frm.trans hE2.nw hput (fun b hb e => by omega)⟩
      · simp [resF, Try.results14, h6, h7, go_sem, z6, z7]
      · rw [hwb]
        rfl
  · have hwb : wbad base cap = 3 := by unfold wbad; rw [if_neg hf]
    rw [hwb] at h8
    (conv => arg 4; whnf)
    refine fw_region_lit rfl ?_
    simp [go_sem, opsF, opF, upF, Region.wanted, Fr.ev, Fr.put, thenE, inBlockE, Oper.semAt, yieldF, h1, h2, h3, h6, h7, h8]
    refine on_kf hK4 [(1, .int .i64 base), (2, .int .i64 cap), (3, .pointer (some ⟨b3, 0, none⟩)), (6, .pointer (some ⟨b6, 0, none⟩)), (7, .pointer (some ⟨b7, 0, none⟩)), (8, .int .i64 3), (15, .bool true)] (by simp [h1, h2, h3, h6, h7, h8]) hds ?_
    clear hK4 h1 h2 h3 h6 h7 h8 hds; intro s hs hds
    obtain ⟨h1, h2, h3, h6, h7, h8, h15⟩ := facts7 hs; clear hs
    refine at_true 15 rfl h15 ?_
    have x6 := B6.cell 0
    have f6 := B6.frozen 0
    have hs6 := Frm.setCell (S := fun b => b = b6) w2 ⟨b6, 0, none⟩ (.int .i64 0) rfl
    have B7' := B7.frm hs6 (by omega)
    have B6' := B6.set 0 (.int .i64 0)
    have x7 := B7'.cell 0
    have f7 := B7'.frozen 0
    simp only [List.getElem?_toArray, List.getElem?_cons_zero, List.getElem?_cons_succ] at x6 x7
    refine at_seq rfl fun K12 hK12 => ?_
    (conv => arg 4; whnf)
    refine fw_region_lit rfl ?_
    simp [go_sem, opsF, opF, upF, Region.wanted, Fr.ev, Fr.put, thenE, inBlockE, Oper.semAt, yieldF, h1, h2, h3, h6, h7, h8, h15, x6, f6, x7, f7]
    have hs7 := Frm.setCell (S := fun b => b = b7) (w2.setCell ⟨b6, 0, none⟩ (.int .i64 0)) ⟨b7, 0, none⟩ (.int .i64 3) rfl
    have z6 := (B6'.frm hs7 (by omega)).cell 0
    have z7 := (B7'.set 0 (.int .i64 3)).cell 0
    have hN : New w _ := Frm.trans (Frm.trans hW2 hs6 (fun b hb h => by omega)) hs7 (fun b hb h => by omega)
    simp at z6 z7
    refine on_kf hK12 [(1, .int .i64 base), (2, .int .i64 cap), (3, .pointer (some ⟨b3, 0, none⟩)), (6, .pointer (some ⟨b6, 0, none⟩)), (7, .pointer (some ⟨b7, 0, none⟩)), (8, .int .i64 3), (15, .bool true)] (by simp [h1, h2, h3, h6, h7, h8, h15]) hds ?_
    clear hK12 h1 h2 h3 h6 h7 h8 h15 hds; intro s hs hds
    obtain ⟨h1, h2, h3, h6, h7, h8, h15⟩ := facts7 hs; clear hs
    refine at_ret rfl ?_
    simp only [inBlockE, thenE]
    show leaveF _ _ _ _ s.ds _
    rw [hds]
    refine ⟨.tuple #[.int .i64 0, .int .i64 3], ?_, ?_, hN⟩
    · simp [resF, Try.results14, h6, h7, go_sem, z6, z7]
    · rw [hwb]
      rfl
end Go.Proofs.Ytiejaopidkghdab
