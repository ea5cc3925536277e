/- The sum of waits. -/
import Derived.Test.YtiejaopidkghdabTi
import Derived.Test.YtiejaopidkghdabKg
namespace Go.Proofs.Ytiejaopidkghdab
set_option linter.unusedSimpArgs false
set_option linter.unusedVariables false
open Go.RowKit Go.Lf

/-- The sum of the waits ahead of n strikes. -/
def sm (base cap : Int) : Nat → Int
  | 0 => 0
  | n + 1 => sm base cap n + wv base cap n

theorem sm_range {base cap : Int} (h : 1 ≤ base ∧ base ≤ cap ∧ cap ≤ 1048576) : ∀ n : Nat, 0 ≤ sm base cap n ∧ sm base cap n ≤ (n : Int) * 1048576
  | 0 => by simp [sm]
  | n + 1 => by
    have h1 := sm_range h n
    have h2 := wv_range (base := base) (cap := cap) ⟨h.1, h.2.1⟩ n
    unfold sm
    constructor
    · omega
    · have : ((n + 1 : Nat) : Int) * 1048576 = (n : Int) * 1048576 + 1048576 := by rw [Int.natCast_add, Int.add_mul]; simp
      omega

theorem WJ.sub {w0 w : World} {L d : Nat} {cs cs' : List (Nat × Int × Nat)} {rec : Loop} (h : WJ w0 L d cs rec w) (hs : ∀ c ∈ cs', c ∈ cs) : WJ w0 L d cs' rec w :=
  ⟨h.rc, h.df, fun c hc => h.bl c (hs c hc), h.nw⟩

noncomputable def body15 : Code := Try.f15.body.getD .skip

set_option maxHeartbeats 1000000 in
theorem sum_any (k : Nat) (base cap : Int) (w : World) (hk : k ≤ 1000) :
    CallsV Try.prog 15 #[.int .i64 (k : Int), .int .i64 base, .int .i64 cap] w fun v w' => v = (if wbad base cap = 0 then .tuple #[.int .i64 (sm base cap k), .int .i64 0] else .tuple #[.int .i64 0, .int .i64 3]) ∧ New w w' := by
  refine calls_at body15 Try.func15 rfl 34 rfl (by simp) fun s hs hds => ?_
  have h0 := hs 0 _ rfl
  have h1 := hs 1 _ rfl
  have h2 := hs 2 _ rfl
  clear hs
  refine at_seq rfl fun K1 hK1 => ?_
  (conv => arg 4; whnf)
  refine fw_region_lit rfl ?_
  simp [go_sem, opsF, opF, upF, Region.wanted, Fr.ev, Fr.put, thenE, inBlockE, Oper.semAt, yieldF, h0, h1, h2]
  have hA1 := Frm.alloc (fun _ => False) w (.cells #[.int .i64 (k : Int)] 3)
  have hb1 := Blk.new w #[.int .i64 (k : Int)] 3
  have hA2 := Frm.alloc (fun _ => False) (w.alloc (.cells #[.int .i64 (k : Int)] 3)) (.cells #[.int .i64 0] 3)
  have hb2 := Blk.new (w.alloc (.cells #[.int .i64 (k : Int)] 3)) #[.int .i64 0] 3
  simp only [World.size_alloc] at hb2
  have hw1 := New.trans hA1 hA2
  have hb1' := hb1.frm hA2 (fun h => h)
  clear hA1 hA2 hb1
  obtain ⟨b3, hb3e⟩ : ∃ b3, b3 = w.heap.size := ⟨_, rfl⟩
  refine on_kf hK1 [(1, .int .i64 base), (2, .int .i64 cap), (3, .pointer (some ⟨w.heap.size, 0, none⟩)), (6, .pointer (some ⟨w.heap.size + 1, 0, none⟩)), (7, .int .i64 0)] (by simp [h0, h1, h2]) hds ?_
  clear hK1 h0 h1 h2 hds; intro s hs hds
  obtain ⟨h1, h2, h3, h6, h7⟩ := facts5 hs; clear hs
  generalize (w.alloc (.cells #[.int .i64 (k : Int)] 3)).alloc (.cells #[.int .i64 0] 3) = w1 at *
  obtain ⟨b6, hb6e⟩ : ∃ b6, b6 = w.heap.size + 1 := ⟨_, rfl⟩
  rw [← hb6e] at h6 hb2
  rw [← hb3e] at h3 hb1'
  have x3 := hb1'.cell 0
  simp only [List.getElem?_toArray, List.getElem?_cons_zero, List.getElem?_cons_succ] at x3
  refine at_scope rfl ?_
  refine at_seq rfl fun K2 hK2 => ?_
  refine at_seq rfl fun K3 hK3 => ?_
  (conv => arg 4; whnf)
  refine fw_region_lit rfl ?_
  simp [go_sem, opsF, opF, upF, Region.wanted, Fr.ev, Fr.put, thenE, inBlockE, Oper.semAt, yieldF, h1, h2, h3, h6, h7, x3]
  refine (wait_any k base cap w1 hk).on ?_
  rintro _ w2 ⟨rfl, hw2⟩
  have B3 := hb1'.frm hw2 (fun h => h)
  have B6 := hb2.frm hw2 (fun h => h)
  have hW2 := New.trans hw1 hw2
  clear hw1 hw2 hb1' hb2 x3
  have hsz := hW2.size
  by_cases hf : 1 ≤ base ∧ base ≤ cap ∧ cap ≤ 1048576
  · have hwb : wbad base cap = 0 := by unfold wbad; rw [if_pos hf]
    rw [if_pos hwb]
    simp [go_sem, opsF, opF, upF, Region.wanted, Fr.ev, Fr.put, thenE, inBlockE, Oper.semAt, yieldF, h1, h2, h3, h6, h7]
    refine on_kf hK3 [(1, .int .i64 base), (2, .int .i64 cap), (3, .pointer (some ⟨b3, 0, none⟩)), (6, .pointer (some ⟨b6, 0, none⟩)), (7, .int .i64 0), (9, .int .i64 0)] (by simp [h1, h2, h3, h6, h7]) hds ?_
    clear hK3 h1 h2 h3 h6 h7 hds; intro s hs hds
    obtain ⟨h1, h2, h3, h6, h7, h9⟩ := facts6 hs; clear hs
    refine at_seq rfl fun K4 hK4 => ?_
    (conv => arg 4; whnf)
    refine fw_region_lit rfl ?_
    simp [go_sem, opsF, opF, upF, Region.wanted, Fr.ev, Fr.put, thenE, inBlockE, Oper.semAt, yieldF, h1, h2, h3, h6, h7, h9]
    refine on_kf hK4 [(1, .int .i64 base), (2, .int .i64 cap), (3, .pointer (some ⟨b3, 0, none⟩)), (6, .pointer (some ⟨b6, 0, none⟩)), (7, .int .i64 0), (9, .int .i64 0), (20, .bool false)] (by simp [h1, h2, h3, h6, h7, h9]) hds ?_
    clear hK4 h1 h2 h3 h6 h7 h9 hds; intro s hs hds
    obtain ⟨h1, h2, h3, h6, h7, h9, h20⟩ := facts7 hs; clear hs
    refine at_false 20 rfl h20 ?_
    refine at_skip rfl ?_
    simp only [inBlockE, thenE]
    refine on_kf hK2 [(1, .int .i64 base), (2, .int .i64 cap), (3, .pointer (some ⟨b3, 0, none⟩)), (6, .pointer (some ⟨b6, 0, none⟩)), (7, .int .i64 0)] (by simp [h1, h2, h3, h6, h7, h9, h20]) hds ?_
    clear hK2 h1 h2 h3 h6 h7 h9 h20 hds; intro s hs hds
    obtain ⟨h1, h2, h3, h6, h7⟩ := facts5 hs; clear hs
    refine at_seq rfl fun K5 hK5 => ?_
    refine at_label rfl ?_
    simp only [inBlockE, thenE]
    refine on_kf hK5 [(1, .int .i64 base), (2, .int .i64 cap), (3, .pointer (some ⟨b3, 0, none⟩)), (6, .pointer (some ⟨b6, 0, none⟩)), (7, .int .i64 0)] (by simp [h1, h2, h3, h6, h7]) hds ?_
    clear hK5 h1 h2 h3 h6 h7 hds; intro s hs hds
    obtain ⟨h1, h2, h3, h6, h7⟩ := facts5 hs; clear hs
    refine at_seq rfl fun K6 hK6 => ?_
    refine at_seq rfl fun K7 hK7 => ?_
    (conv => arg 4; whnf)
    refine fw_region_lit rfl ?_
    simp [go_sem, opsF, opF, upF, Region.wanted, Fr.ev, Fr.put, thenE, inBlockE, Oper.semAt, yieldF, h1, h2, h3, h6, h7]
    refine (waits_any base cap w2).on ?_
    rintro _ w5 ⟨b1, b2, rfl, hw5, g1, g2, D1, D2⟩
    have D3 := B3.frm hw5 (fun h => h)
    have D6 := B6.frm hw5 (fun h => h)
    have hW5 := New.trans hW2 hw5
    have lt6 := B6.lt
    refine on_kf hK7 [(1, .int .i64 base), (2, .int .i64 cap), (3, .pointer (some ⟨b3, 0, none⟩)), (6, .pointer (some ⟨b6, 0, none⟩)), (7, .int .i64 0), (24, .func (.func 29) #[] #[.pointer (some ⟨b1, 0, none⟩), .pointer (some ⟨b2, 0, none⟩)])] (by simp [h1, h2, h3, h6, h7]) hds ?_
    clear hK7 h1 h2 h3 h6 h7 hds; intro s hs hds
    obtain ⟨h1, h2, h3, h6, h7, h24⟩ := facts6 hs; clear hs
    refine at_block 0 rfl ?_
    refine at_range (g := .tmp 24) (ps := #[25, 26]) rfl (gf := 29) (cap := #[.pointer (some ⟨b1, 0, none⟩), .pointer (some ⟨b2, 0, none⟩)]) h24 call29 ?_
    intro fn T wC hT hTg hC hszC hdf hrc
    have hJ0 : WJ w (w5.heap.size + 1) w5.heap.size [(b1, base, 3), (b2, cap, 3), (b3, (k : Int), 3), (b6, sm base cap 0, 3)] (recOf fn T #[25, 26] (sub body15 [0,0,1,0,1,1,0,1]) (sub body15 [1,0,1,0,1,1,0,1]) w5.heap.size) wC := by
      refine ⟨hrc, hdf, ?_, New.trans hW5 hC⟩
      intro c hc
      simp [sm] at hc
      rcases hc with rfl | rfl | rfl | rfl
      · exact D1.frm hC (fun h => h)
      · exact D2.frm hC (fun h => h)
      · exact D3.frm hC (fun h => h)
      · exact D6.frm hC (fun h => h)
    have n35 : b3 ≠ b6 ∧ b1 ≠ b6 ∧ b2 ≠ b6 ∧ w.heap.size ≤ b6 := by omega
    have hLsz : w.heap.size ≤ w5.heap.size + 1 := by have := hW5.size; omega
    have hdsz : w.heap.size ≤ w5.heap.size := by have := hW5.size; omega
    clear D1 D2 D3 D6 B3 B6 hdf hrc hszC hC hw5 hW5 hW2 hsz g1 g2 lt6
    generalize w5.heap.size + 1 = L at *
    generalize w5.heap.size = d at *
    refine (waits_it base cap L b1 b2 k (fun n => WJ w L d [(b1, base, 3), (b2, cap, 3), (b3, (k : Int), 3), (b6, sm base cap n, 3)] (recOf fn T #[25, 26] (sub body15 [0,0,1,0,1,1,0,1]) (sub body15 [1,0,1,0,1,1,0,1]) d))
      (fun w' => WJ w L d [(b1, base, 3), (b2, cap, 3), (b3, (k : Int), 3), (b6, sm base cap k, 3)] { (recOf fn T #[25, 26] (sub body15 [0,0,1,0,1,1,0,1]) (sub body15 [1,0,1,0,1,1,0,1]) d) with state := .done, pending := some (.exit 0) } w') wC hf (by omega) (fun n x h => ⟨h.cell (T := 3) (by simp), h.cell (T := 3) (by simp)⟩) (fun _ _ _ h hn => h.frm hn) ?_ hJ0).on ?_
    · intro n wN hn hJ
      refine yieldV_of hJ.rc rfl rfl hT s.t hTg (by simp [recOf]) ?_
      dsimp only [recOf]
      have hsr := sm_range hf n
      obtain ⟨v1, v2⟩ := wv_range (base := base) (cap := cap) ⟨hf.1, hf.2.1⟩ n
      generalize hwv : wv base cap n = v at *
      have hJb := hJ.put { (recOf fn T #[25, 26] (sub body15 [0,0,1,0,1,1,0,1]) (sub body15 [1,0,1,0,1,1,0,1]) d) with state := .busy } hLsz
      refine reframe [(3, .pointer (some ⟨b3, 0, none⟩)), (6, .pointer (some ⟨b6, 0, none⟩)), (25, .int .i64 (n : Int)), (26, .int .i64 v)] (by simp [h3, h6]) rfl ?_
      intro s hs hds
      obtain ⟨h3, h6, h25, h26⟩ := facts4 hs; clear hs
      refine at_seq rfl fun K8 hK8 => ?_
      (conv => arg 4; whnf)
      refine fw_region_lit rfl ?_
      simp [go_sem, opsF, opF, upF, Region.wanted, Fr.ev, Fr.put, thenE, inBlockE, Oper.semAt, yieldF, h3, h6, h25, h26]
      refine on_kf hK8 [(3, .pointer (some ⟨b3, 0, none⟩)), (6, .pointer (some ⟨b6, 0, none⟩)), (10, .int .i64 (n : Int)), (25, .int .i64 (n : Int)), (26, .int .i64 v)] (by simp [h3, h6, h25, h26]) hds ?_
      clear hK8 h3 h6 h25 h26 hds; intro s hs hds
      obtain ⟨h3, h6, h10, h25, h26⟩ := facts5 hs; clear hs
      (conv => arg 4; whnf)
      refine fw_region_lit rfl ?_
      simp [go_sem, opsF, opF, upF, Region.wanted, Fr.ev, Fr.put, thenE, inBlockE, Oper.semAt, yieldF, h3, h6, h10, h25, h26]
      refine ⟨rfl, _, hJ.rc, rfl, ?_⟩
      refine reframe [(3, .pointer (some ⟨b3, 0, none⟩)), (6, .pointer (some ⟨b6, 0, none⟩)), (10, .int .i64 (n : Int)), (11, .int .i64 v)] (by simp [h3, h6, h10, h25, h26]) hds ?_
      intro s hs hds
      obtain ⟨h3, h6, h10, h11⟩ := facts4 hs; clear hs
      dsimp only [recOf] at *
      generalize wN.putObj L (.loop { state := .busy, pending := none, fn := fn, tmps := T, params := #[25, 26], assign := sub body15 [0,0,1,0,1,1,0,1], body := sub body15 [1,0,1,0,1,1,0,1], defers := d }) = wM at *
      have x3 : wM.cell? ⟨b3, 0, none⟩ = some (.int .i64 (k : Int)) := hJb.cell (T := 3) (by simp)
      have x6 : wM.cell? ⟨b6, 0, none⟩ = some (.int .i64 (sm base cap n)) := hJb.cell (T := 3) (by simp)
      have f6 : wM.frozen? ⟨b6, 0, none⟩ = false := hJb.frozen (v := sm base cap n) (T := 3) (by simp)
      refine at_block 1 rfl ?_
      refine at_seq rfl fun K9 hK9 => ?_
      refine at_seq rfl fun K10 hK10 => ?_
      by_cases he : n = k
      · have he' : ((n : Int) == (k : Int)) = true := by simp [he]
        (conv => arg 4; whnf)
        refine fw_region_lit rfl ?_
        simp [go_sem, opsF, opF, upF, Region.wanted, Fr.ev, Fr.put, thenE, inBlockE, Oper.semAt, yieldF, h3, h6, h10, h11, x3, he']
        refine on_kf hK10 [(3, .pointer (some ⟨b3, 0, none⟩)), (6, .pointer (some ⟨b6, 0, none⟩)), (10, .int .i64 (n : Int)), (11, .int .i64 v), (29, .bool true)] (by simp [h3, h6, h10, h11]) hds ?_
        clear hK10 h3 h6 h10 h11 hds; intro s hs hds
        obtain ⟨h3, h6, h10, h11, h29⟩ := facts5 hs; clear hs
        refine at_true 29 rfl h29 ?_
        refine at_exit 0 rfl ?_
        simp only [inBlockE, thenE]
        refine ⟨_, hJb.rc, .inr ⟨he, rfl, ?_⟩⟩
        subst he
        exact hJb.put _ hLsz
      · have he' : ((n : Int) == (k : Int)) = false := by
          rw [beq_eq_false_iff_ne]
          omega
        (conv => arg 4; whnf)
        refine fw_region_lit rfl ?_
        simp [go_sem, opsF, opF, upF, Region.wanted, Fr.ev, Fr.put, thenE, inBlockE, Oper.semAt, yieldF, h3, h6, h10, h11, x3, he']
        refine on_kf hK10 [(3, .pointer (some ⟨b3, 0, none⟩)), (6, .pointer (some ⟨b6, 0, none⟩)), (10, .int .i64 (n : Int)), (11, .int .i64 v), (29, .bool false)] (by simp [h3, h6, h10, h11]) hds ?_
        clear hK10 h3 h6 h10 h11 hds; intro s hs hds
        obtain ⟨h3, h6, h10, h11, h29⟩ := facts5 hs; clear hs
        refine at_false 29 rfl h29 ?_
        refine at_skip rfl ?_
        simp only [inBlockE, thenE]
        refine on_kf hK9 [(3, .pointer (some ⟨b3, 0, none⟩)), (6, .pointer (some ⟨b6, 0, none⟩)), (10, .int .i64 (n : Int)), (11, .int .i64 v)] (by simp [h3, h6, h10, h11, h29]) hds ?_
        clear hK9 h3 h6 h10 h11 h29 hds; intro s hs hds
        obtain ⟨h3, h6, h10, h11⟩ := facts4 hs; clear hs
        have e1 : IntKind.i64.wrap (sm base cap n + v) = sm base cap n + v := IntWalk.i64_in _ (by omega)
        have hJ6 := hJb.set (b := b6) (v := sm base cap n) (T := 3) (by simp) n35.2.2.2 (sm base cap n + v)
        (conv => arg 4; whnf)
        refine fw_region_lit rfl ?_
        simp [go_sem, opsF, opF, upF, Region.wanted, Fr.ev, Fr.put, thenE, inBlockE, Oper.semAt, yieldF, h3, h6, h10, h11, x6, f6, e1]
        have hn1 : sm base cap (n + 1) = sm base cap n + v := by rw [← hwv]; rfl
        refine ⟨_, hJ6.rc, .inl ⟨by omega, rfl, (hJ6.put _ hLsz).sub ?_⟩⟩
        intro c hc
        rw [hn1] at hc
        simp only [List.mem_cons, List.not_mem_nil, or_false] at hc
        rcases hc with rfl | rfl | rfl | rfl
        · exact mem_other (by simp) n35.2.1
        · exact mem_other (by simp) n35.2.2.1
        · exact mem_other (by simp) n35.1
        · exact mem_same (v := sm base cap n) (by simp)
    · rintro _ wE hE
      refine ⟨_, hE.rc, by simp, ?_⟩
      dsimp only [recOf]
      have hE2 := hE.put { (recOf fn T #[25, 26] (sub body15 [0,0,1,0,1,1,0,1]) (sub body15 [1,0,1,0,1,1,0,1]) d) with state := .exhausted, pending := some (.exit 0) } hLsz
      dsimp only [recOf] at hE2
      generalize wE.putObj L (.loop { state := .exhausted, pending := some (.exit 0), fn := fn, tmps := T, params := #[25, 26], assign := sub body15 [0,0,1,0,1,1,0,1], body := sub body15 [1,0,1,0,1,1,0,1], defers := d }) = wF at *
      refine fw_exit ?_
      simp only [inBlockE, thenE]
      simp only [if_true]
      have x6 : wF.cell? ⟨b6, 0, none⟩ = some (.int .i64 (sm base cap k)) := hE2.cell (T := 3) (by simp)
      have f6 : wF.frozen? ⟨b6, 0, none⟩ = false := hE2.frozen (v := sm base cap k) (T := 3) (by simp)
      have hE3 := hE2.set (b := b6) (v := sm base cap k) (T := 3) (by simp) n35.2.2.2 (sm base cap k)
      refine on_kf hK6 [(6, .pointer (some ⟨b6, 0, none⟩))] (by simp [h6]) (D := [{ target := .collected d, args := #[] }]) (by simp [hds]) ?_
      clear hK6 h6 hds; intro s hs hds
      have h6 : s.t 6 = .pointer (some ⟨b6, 0, none⟩) := hs (6, _) (List.mem_singleton_self _); clear hs
      refine at_seq rfl fun K11 hK11 => ?_
      (conv => arg 4; whnf)
      refine fw_region_lit rfl ?_
      simp [go_sem, opsF, opF, upF, Region.wanted, Fr.ev, Fr.put, thenE, inBlockE, Oper.semAt, yieldF, h6, x6, f6]
      refine on_kf hK11 [(6, .pointer (some ⟨b6, 0, none⟩)), (7, .int .i64 0)] (by simp [h6]) hds ?_
      clear hK11 h6 hds; intro s hs hds
      obtain ⟨h6, h7⟩ := facts2 hs; clear hs
      refine at_ret rfl ?_
      simp only [noGotoE]
      show leaveF _ _ _ _ s.ds _
      rw [hds]
      have m6 := mem_same (v' := sm base cap k) (show (b6, sm base cap k, 3) ∈ [(b1, base, 3), (b2, cap, 3), (b3, (k : Int), 3), (b6, sm base cap k, 3)] by simp)
      have hput := Frm.putObj (S := fun b => b = d) (wF.setCell ⟨b6, 0, none⟩ (.int .i64 (sm base cap k))) d (.deferred none) rfl
      have hdn : b6 ≠ d := by
        intro e
        have h1 : (wF.setCell ⟨b6, 0, none⟩ (.int .i64 (sm base cap k))).heap[b6]? = _ := hE3.bl _ m6
        rw [e] at h1
        have h2 := hE3.df
        rw [e] at h2
        rw [h2] at h1
        cases h1
      have z6 := ((hE3.bl _ m6).frm hput hdn).cell 0
      simp at z6
      refine ⟨_, rfl, hE3.df, .tuple #[.int .i64 (sm base cap k), .int .i64 0], ?_, ?_, Frm.trans hE3.nw hput (fun b hb e => by omega)⟩
      · simp [resF, Try.results15, h6, h7, go_sem, z6]
      · rw [hwb]
        rfl
  · have hwb : wbad base cap = 3 := by unfold wbad; rw [if_neg hf]
    have hwb' : ¬ wbad base cap = 0 := by omega
    rw [if_neg hwb']
    simp [go_sem, opsF, opF, upF, Region.wanted, Fr.ev, Fr.put, thenE, inBlockE, Oper.semAt, yieldF, h1, h2, h3, h6, h7]
    refine on_kf hK3 [(1, .int .i64 base), (2, .int .i64 cap), (3, .pointer (some ⟨b3, 0, none⟩)), (6, .pointer (some ⟨b6, 0, none⟩)), (7, .int .i64 0), (9, .int .i64 3)] (by simp [h1, h2, h3, h6, h7]) hds ?_
    clear hK3 h1 h2 h3 h6 h7 hds; intro s hs hds
    obtain ⟨h1, h2, h3, h6, h7, h9⟩ := facts6 hs; clear hs
    refine at_seq rfl fun K12 hK12 => ?_
    (conv => arg 4; whnf)
    refine fw_region_lit rfl ?_
    simp [go_sem, opsF, opF, upF, Region.wanted, Fr.ev, Fr.put, thenE, inBlockE, Oper.semAt, yieldF, h1, h2, h3, h6, h7, h9]
    refine on_kf hK12 [(1, .int .i64 base), (2, .int .i64 cap), (3, .pointer (some ⟨b3, 0, none⟩)), (6, .pointer (some ⟨b6, 0, none⟩)), (7, .int .i64 0), (9, .int .i64 3), (20, .bool true)] (by simp [h1, h2, h3, h6, h7, h9]) hds ?_
    clear hK12 h1 h2 h3 h6 h7 h9 hds; intro s hs hds
    obtain ⟨h1, h2, h3, h6, h7, h9, h20⟩ := facts7 hs; clear hs
    refine at_true 20 rfl h20 ?_
    have x6 := B6.cell 0
    have f6 := B6.frozen 0
    simp only [List.getElem?_toArray, List.getElem?_cons_zero, List.getElem?_cons_succ] at x6
    refine at_seq rfl fun K13 hK13 => ?_
    (conv => arg 4; whnf)
    refine fw_region_lit rfl ?_
    simp [go_sem, opsF, opF, upF, Region.wanted, Fr.ev, Fr.put, thenE, inBlockE, Oper.semAt, yieldF, h1, h2, h3, h6, h7, h9, h20, x6, f6]
    refine on_kf hK13 [(1, .int .i64 base), (2, .int .i64 cap), (3, .pointer (some ⟨b3, 0, none⟩)), (6, .pointer (some ⟨b6, 0, none⟩)), (7, .int .i64 3), (9, .int .i64 3), (20, .bool true)] (by simp [h1, h2, h3, h6, h7, h9, h20]) hds ?_
    clear hK13 h1 h2 h3 h6 h7 h9 h20 hds; intro s hs hds
    obtain ⟨h1, h2, h3, h6, h7, h9, h20⟩ := facts7 hs; clear hs
    have hs6 := Frm.setCell (S := fun b => b = b6) w2 ⟨b6, 0, none⟩ (.int .i64 0) rfl
    have z6 := (B6.set 0 (.int .i64 0)).cell 0
    simp at z6
    refine at_ret rfl ?_
    simp only [inBlockE, thenE, noGotoE]
    show leaveF _ _ _ _ s.ds _
    rw [hds]
    refine ⟨.tuple #[.int .i64 0, .int .i64 3], ?_, ?_, Frm.trans hW2 hs6 (fun b hb e => by omega)⟩
    · simp [resF, Try.results15, h6, h7, go_sem, z6]
    · rw [if_neg hwb']
end Go.Proofs.Ytiejaopidkghdab
