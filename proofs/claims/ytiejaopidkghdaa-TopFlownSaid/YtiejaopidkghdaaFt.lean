/- The law, whole. -/
import Derived.Test.YtiejaopidkghdaaFs
namespace Go.Proofs.Ytiejaopidkghdaa
set_option linter.unusedSimpArgs false
set_option linter.unusedVariables false
open Go.RowKit Go.Lf

theorem new_any (n : Int) (w : World) (h1 : 1 ≤ n) (h2 : n ≤ 16) :
    CallsV Try.prog 4 #[.int .i64 n] w fun v w' => v = .tuple #[.pointer (some ⟨w.heap.size + 1, 0, none⟩), .int .i64 0] ∧ w' = (w.alloc (Obj.map #[] 0)).alloc (Obj.cells #[Value.int IntKind.i64 n, Value.slice none 0 0, Value.map (some w.heap.size)] 49) := by
  have hmm := @run_makeMap Try.prog
  go_enter Try.func4, Try.ntmps4
  go_wp2
  go_ret2
  exact ⟨_, rfl, rfl, rfl⟩

/-- What the law is told of its list. -/
def IsTri (w : World) (lv : Value) (zs : List T3) : Prop :=
  (lv = .slice none 0 0 ∧ zs = []) ∨ ∃ a cap, lv = .slice (some a) zs.length cap ∧ zs.length ≤ cap ∧ cap ≤ maxLen ∧ (∀ j u, (zs.flatMap T3.enc)[j]? = some u → w.cell? (a.add j) = some u) ∧ ∀ t ∈ zs, t.ok

def knowns : List T3 := [⟨0, 0, 5⟩, ⟨0, 1, 5⟩, ⟨0, 0, 5⟩, ⟨0, 0, 4⟩, ⟨2, 1, 0⟩, ⟨2, 1, 0⟩, ⟨0, 0, 5⟩, ⟨2, 9, 0⟩]

theorem info28 : (Try.prog.info? 28).map (fun i => (i.zero, i.size, i.bytes)) = some (some (.agg #[.int .u8 0, .int .u8 0, .int .u8 0]), 3, 3) := by kernel_rfl

theorem fresh (w : World) (N : Int) : Flight ((w.alloc (Obj.map #[] 0)).alloc (Obj.cells #[Value.int IntKind.i64 N, Value.slice none 0 0, Value.map (some w.heap.size)] 49)) (w.heap.size + 1) N [] (fun b => b = w.heap.size ∨ b = w.heap.size + 1) := by
  have hb : Blk ((w.alloc (Obj.map #[] 0)).alloc (Obj.cells #[Value.int IntKind.i64 N, Value.slice none 0 0, Value.map (some w.heap.size)] 49)) (w.heap.size + 1) #[Value.int IntKind.i64 N, Value.slice none 0 0, Value.map (some w.heap.size)] 49 := by
    have := Blk.new (w.alloc (Obj.map #[] 0)) #[Value.int IntKind.i64 N, Value.slice none 0 0, Value.map (some w.heap.size)] 49
    rw [World.size_alloc] at this
    exact this
  refine ⟨⟨w.heap.size, .slice none 0 0, fun _ => none, ⟨hb, World.ownsRow_nil _ _ _ _⟩, (mapIs_new Try.prog 53 w).frm (Frm.alloc (fun _ => False) _ _) (fun h => h), ?_, .inr rfl, .inl rfl, fun k hk => by cases hk⟩, ?_⟩
  · intro a b v
    constructor
    · intro h; cases h
    · rintro ⟨i, r, h, _⟩; simp at h
  · intro b hb
    simp
    omega

theorem knowns_row (w : World) : Row (w.alloc (Obj.cells (knowns.flatMap T3.enc).toArray 28)) 28 3 (.slice (some ⟨w.heap.size, 0, none⟩) 8 8) 8 (knowns.flatMap T3.enc) := by
  refine ⟨by simp [knowns, T3.enc], .inr ⟨w.heap.size, 8, (knowns.flatMap T3.enc).toArray, rfl, Nat.zero_le _, World.alloc_heap_new w _, by omega, by unfold maxLen; omega, by simp [knowns, T3.enc], by simp [knowns, T3.enc]⟩⟩

theorem knowns_ok : ∀ t ∈ knowns, t.ok := by
  intro t ht
  simp [knowns] at ht
  rcases ht with rfl | rfl | rfl | rfl | rfl | rfl | rfl | rfl <;> simp [T3.ok]

/-- What the law's list of calls is, behind its append. -/
theorem calls_row (w : World) (b : Nat) (lv u : Value) (zs ts : List T3) (hk : Row w 28 3 (.slice (some ⟨b, 0, none⟩) 8 8) 8 (knowns.flatMap T3.enc)) (hts : ts = zs.take 120)
    (hu : (u = .slice none 0 0 ∧ ts = []) ∨ ∃ a cap, u = .slice (some a) ts.length cap ∧ ∀ j x, (ts.flatMap T3.enc)[j]? = some x → w.cell? (a.add j) = some x) :
    ∃ g cap w', (Builtin.append_ #[22, 22] 22 #[.slice (some ⟨b, 0, none⟩) 8 8, u]).run Try.prog w = .ok (.slice (some ⟨g, 0, none⟩) (8 + ts.length) cap) w' ∧ Row w' 28 3 (.slice (some ⟨g, 0, none⟩) (8 + ts.length) cap) (8 + ts.length) ((knowns ++ ts).flatMap T3.enc) ∧ Frm (fun k => k = b) w w' ∧ (g = b ∨ w.heap.size ≤ g) := by
  have h120 : ts.length ≤ 120 := by rw [hts, List.length_take]; omega
  rcases hu with ⟨rfl, rfl⟩ | ⟨a, cap, rfl, hc⟩
  · obtain ⟨i, hi1, hi2, hi3, hi4⟩ := info_parts info28
    refine ⟨b, 8, w, run_append_owned_none w 0 22 22 28 i 3 Try.underlying22 hi1 _ 8 _ hk, by simpa using hk, Frm.refl _ _, .inl rfl⟩
  · have h1 : ∀ x ∈ ts.flatMap T3.enc, x.oneCell' = true := by
      intro x hx
      rw [List.mem_flatMap] at hx
      obtain ⟨t, _, ht⟩ := hx
      simp [T3.enc] at ht
      rcases ht with rfl | rfl | rfl <;> rfl
    obtain ⟨v', w', r1, r2, r3, r4, r5⟩ := hk.append (P := Try.prog) (t := 22) (ty := 22) Try.underlying22 info28 rfl (by decide) a ts.length cap (ts.flatMap T3.enc) (flat_length T3.enc 3 T3.enc_len ts) hc h1 (by unfold maxLen; omega) (by omega)
    obtain ⟨g, cp, rfl⟩ : ∃ g cp, v' = .slice (some ⟨g, 0, none⟩) (8 + ts.length) cp := by
      rcases r2.val with ⟨_, h, _⟩ | ⟨g, cp, h, _⟩
      · omega
      · exact ⟨g, cp, h⟩
    refine ⟨g, cp, w', r1, by rw [List.flatMap_append]; exact r2, r3.mono (fun k _ h => by cases h; rfl), ?_⟩
    rcases r5 g rfl with h | ⟨h, _⟩
    · cases h; exact .inl rfl
    · exact .inr h

set_option maxHeartbeats 1000000 in
theorem law_any (many : Int) (lv : Value) (zs : List T3) (w : World) (hm : 0 ≤ many ∧ many ≤ 255) (hl : IsTri w lv zs) :
    CallsV Try.prog 3 #[.int .u8 many, lv] w fun v w' => v = .bool true ∧ New w w' := by
  refine calls_at body3 Try.func3 rfl 303 rfl (by simp) fun s hs hds => ?_
  have h0 := hs 0 _ rfl
  have h1 := hs 1 _ rfl
  clear hs
  have a1 : many.tmod 16 = many % 16 := Int.tmod_eq_emod_of_nonneg (by omega)
  have a2 : IntKind.i64.wrap (many % 16) = many % 16 := IntWalk.i64_in _ (by omega)
  have a3 : IntKind.i64.wrap (1 + many % 16) = 1 + many % 16 := IntWalk.i64_in _ (by omega)
  have a4 : 0 ≤ many % 16 ∧ many % 16 < 16 := by omega
  refine at_seq rfl fun K1 hK1 => ?_
  (conv => arg 4; whnf)
  refine fw_region_lit rfl ?_
  simp [go_sem, opsF, opF, upF, Region.wanted, Fr.ev, Fr.put, thenE, inBlockE, Oper.semAt, yieldF, h0, h1]
  refine on_kf hK1 [(0, .int .u8 many), (1, lv)] (by simp [h0, h1]) hds ?_
  clear hK1 h0 h1 hds; intro s hs hds
  obtain ⟨h0, h1⟩ := facts2 hs; clear hs
  refine at_seq rfl fun K2 hK2 => ?_
  (conv => arg 4; whnf)
  refine fw_region_lit rfl ?_
  simp [go_sem, opsF, opF, upF, Region.wanted, Fr.ev, Fr.put, thenE, inBlockE, Oper.semAt, yieldF, h0, h1, a1, a2, a3]
  refine on_kf hK2 [(1, lv), (5, .int .i64 (1 + many % 16))] (by simp [h0, h1]) hds ?_
  clear hK2 h0 h1 hds; intro s hs hds
  obtain ⟨h1, h5⟩ := facts2 hs; clear hs
  generalize hN : 1 + many % 16 = N at *
  have hN1 : 1 ≤ N ∧ N ≤ 16 := by omega
  refine at_seq rfl fun K3 hK3 => ?_
  (conv => arg 4; whnf)
  refine fw_region_lit rfl ?_
  simp [go_sem, opsF, opF, upF, Region.wanted, Fr.ev, Fr.put, thenE, inBlockE, Oper.semAt, yieldF, h1, h5]
  refine (new_any N w hN1.1 hN1.2).on ?_
  rintro _ w1 ⟨rfl, rfl⟩
  simp [go_sem, opsF, opF, upF, Region.wanted, Fr.ev, Fr.put, thenE, inBlockE, Oper.semAt, yieldF, h1, h5]
  refine on_kf hK3 [(1, lv), (5, .int .i64 N), (6, .pointer (some ⟨w.heap.size + 1, 0, none⟩)), (7, .int .i64 0)] (by simp [h1, h5]) hds ?_
  clear hK3 h1 h5 hds; intro s hs hds
  obtain ⟨h1, h5, h6, h7⟩ := facts4 hs; clear hs
  have hfl := fresh w N
  have hw1 : New w _ := New.trans (Frm.alloc (fun _ => False) w (Obj.map #[] 0)) (Frm.alloc (fun _ => False) _ (Obj.cells #[Value.int IntKind.i64 N, Value.slice none 0 0, Value.map (some w.heap.size)] 49))
  have hsz : ((w.alloc (Obj.map #[] 0)).alloc (Obj.cells #[Value.int IntKind.i64 N, Value.slice none 0 0, Value.map (some w.heap.size)] 49)).heap.size = w.heap.size + 2 := by simp
  generalize (w.alloc (Obj.map #[] 0)).alloc (Obj.cells #[Value.int IntKind.i64 N, Value.slice none 0 0, Value.map (some w.heap.size)] 49) = w1 at *
  refine at_seq rfl fun K4 hK4 => ?_
  refine at_seq rfl fun K5 hK5 => ?_
  (conv => arg 4; whnf)
  refine fw_region_lit rfl ?_
  simp [go_sem, opsF, opF, upF, Region.wanted, Fr.ev, Fr.put, thenE, inBlockE, Oper.semAt, yieldF, h1, h5, h6, h7]
  refine on_kf hK5 [(1, lv), (5, .int .i64 N), (6, .pointer (some ⟨w.heap.size + 1, 0, none⟩)), (7, .int .i64 0), (47, .bool false)] (by simp [h1, h5, h6, h7]) hds ?_
  clear hK5 h1 h5 h6 h7 hds; intro s hs hds
  obtain ⟨h1, h5, h6, h7, h47⟩ := facts5 hs; clear hs
  refine at_false 47 rfl h47 ?_
  refine at_skip rfl ?_
  simp only [inBlockE, thenE]
  refine on_kf hK4 [(1, lv), (5, .int .i64 N), (6, .pointer (some ⟨w.heap.size + 1, 0, none⟩))] (by simp [h1, h5, h6, h7, h47]) hds ?_
  clear hK4 h1 h5 h6 h7 h47 hds; intro s hs hds
  obtain ⟨h1, h5, h6⟩ := facts3 hs; clear hs
  refine at_seq rfl fun K6 hK6 => ?_
  (conv => arg 4; whnf)
  refine fw_region_lit rfl ?_
  simp [go_sem, opsF, opF, upF, Region.wanted, Fr.ev, Fr.put, thenE, inBlockE, Oper.semAt, yieldF, h1, h5, h6]
  refine on_kf hK6 [(1, lv), (5, .int .i64 N), (6, .pointer (some ⟨w.heap.size + 1, 0, none⟩)), (8, .slice none 0 0)] (by simp [h1, h5, h6]) hds ?_
  clear hK6 h1 h5 h6 hds; intro s hs hds
  obtain ⟨h1, h5, h6, h8⟩ := facts4 hs; clear hs
  refine at_seq rfl fun K7 hK7 => ?_
  (conv => arg 4; whnf)
  refine fw_region_lit rfl ?_
  simp [go_sem, opsF, opF, upF, Region.wanted, Fr.ev, Fr.put, thenE, inBlockE, Oper.semAt, yieldF, h1, h5, h6, h8]
  have hrow0 := knowns_row w1
  have hA := Frm.alloc (fun _ => False) w1 (Obj.cells (knowns.flatMap T3.enc).toArray 28)
  have hw2 := New.trans hw1 hA
  have hfl2 := hfl.frm hA (fun _ _ h => h)
  have hA' : w1.heap.size < (w1.alloc (Obj.cells (knowns.flatMap T3.enc).toArray 28)).heap.size := by simp
  change K7 _ (w1.alloc (Obj.cells (knowns.flatMap T3.enc).toArray 28))
  refine on_kf hK7 [(1, lv), (5, .int .i64 N), (6, .pointer (some ⟨w.heap.size + 1, 0, none⟩)), (8, .slice none 0 0), (9, .slice (some ⟨w1.heap.size, 0, none⟩) 8 8)] (by simp [h1, h5, h6, h8]) hds ?_
  clear hK7 h1 h5 h6 h8 hds; intro s hs hds
  obtain ⟨h1, h5, h6, h8, h9⟩ := facts5 hs; clear hs
  generalize w1.alloc (Obj.cells (knowns.flatMap T3.enc).toArray 28) = w2 at *
  generalize hbk : w1.heap.size = bk at *
  have fin : ∀ (K8 : Fr → World → Prop), (∀ s x, FW Try.prog 303 none (sub body3 [1,1,1,1,1,1,1]) (postF Try.prog Try.f3 fun v w' => v = .bool true ∧ New w w') s x → K8 s x) →
      ∀ (ts : List T3) (g cp : Nat) (w3 : World) (s : Fr), Row w3 28 3 (.slice (some ⟨g, 0, none⟩) (8 + ts.length) cp) (8 + ts.length) ((knowns ++ ts).flatMap T3.enc) → Frm (fun k => k = bk) w2 w3 → (g = bk ∨ w2.heap.size ≤ g) → ts.length ≤ 120 → (∀ t ∈ ts, t.ok) →
      s.t 5 = .int .i64 N → s.t 6 = .pointer (some ⟨w.heap.size + 1, 0, none⟩) → s.t 8 = .slice none 0 0 → s.t 63 = .slice (some ⟨g, 0, none⟩) (8 + ts.length) cp → s.t 64 = .int .i64 ((8 + ts.length : Nat) : Int) → s.t 65 = .int .i64 ((0 : Nat) : Int) → s.ds = [] →
      FW Try.prog 303 none (sub body3 [1,0,1,1,1,1,1,1]) (thenE K8 (postF Try.prog Try.f3 fun v w' => v = .bool true ∧ New w w')) s w3 := by
    intro K8 hK8 ts g cp w3 s hrow3 hfr3 hg hlen hok' h5 h6 h8 h63 h64 h65 hds
    have hl : (knowns ++ ts).length = 8 + ts.length := by simp [knowns]; omega
    have hw3 : New w w3 := Frm.trans hw2 hfr3 (fun b hb h => by omega)
    have hL : LW w (w.heap.size + 1) N [] (fun b => b = w.heap.size ∨ b = w.heap.size + 1) (.slice none 0 0) (.slice (some ⟨g, 0, none⟩) (8 + ts.length) cp) (knowns ++ ts).length ((knowns ++ ts).flatMap T3.enc) w3 := by
      refine ⟨hw3, hfl2.frm hfr3 (fun b hb e => by omega), World.ownsRow_nil _ _ _ _, by rw [hl]; exact hrow3, fun b hb => by omega, fun b hb => by (cases hb), ?_, fun b _ hb => by (cases hb)⟩
      intro b hb
      obtain rfl : g = b := by cases hb; rfl
      have := hw2.size
      omega
    refine segRounds s w w3 _ _ N (w.heap.size + 1) [] (fun b => b = w.heap.size ∨ b = w.heap.size + 1) (.slice none 0 0) _ (knowns ++ ts) h5 h6 h8 h63 (by rw [hl]; exact h64) h65 hds hL hN1 (by omega) ?_ ?_
    · intro t ht
      rcases List.mem_append.1 ht with h | h
      · exact knowns_ok t h
      · exact hok' t h
    · intro s w4 hds hw4
      refine hK8 _ _ ?_
      refine at_seq rfl fun K8 hK8 => ?_
      (conv => arg 4; whnf)
      refine fw_region_lit rfl ?_
      simp [go_sem, opsF, opF, upF, Region.wanted, Fr.ev, Fr.put, thenE, inBlockE, Oper.semAt, yieldF]
      refine on_kf hK8 [(4, .bool true)] (by simp) hds ?_
      clear hK8  hds; intro s hs hds
      have h4 : s.t 4 = .bool true := hs (4, _) (List.mem_singleton_self _); clear hs
      exact at_ret rfl (ret_one rfl hds ⟨h4, hw4⟩)
  refine at_seq rfl fun K9 hK9 => ?_
  refine at_seq rfl fun K10 hK10 => ?_
  rcases hl with ⟨rfl, rfl⟩ | ⟨a, cap, rfl, hcap, hmax, hcell, hok⟩
  · obtain ⟨g, cp, w3, hap, hrow3, hfr3, hg⟩ := calls_row w2 bk (.slice none 0 0) (.slice none 0 0) [] [] hrow0 rfl (.inl ⟨rfl, rfl⟩)
    (conv => arg 4; whnf)
    refine fw_region_lit rfl ?_
    refine ops_take 6 fun KO hKO => ?_
    simp [go_sem, opsF, opF, upF, Region.wanted, Fr.ev, Fr.put, thenE, inBlockE, Oper.semAt, yieldF, h1, h5, h6, h8, h9]
    refine hKO _ _ ?_
    clear hKO
    refine ops_append rfl rfl rfl (v := .slice (some ⟨bk, 0, none⟩) 8 8) (u := .slice none 0 0) (by simp [Fr.ev, Fr.put, h9]) (by simp [Fr.ev, Fr.put]) hap ?_
    simp [go_sem, opsF, opF, upF, Region.wanted, Fr.ev, Fr.put, thenE, inBlockE, Oper.semAt, yieldF, h1, h5, h6, h8, h9]
    refine on_kf hK10 [(5, .int .i64 N), (6, .pointer (some ⟨w.heap.size + 1, 0, none⟩)), (8, .slice none 0 0), (9, .slice (some ⟨bk, 0, none⟩) 8 8), (63, .slice (some ⟨g, 0, none⟩) (8 + (([] : List T3)).length) cp), (64, .int .i64 ((8 + (([] : List T3)).length : Nat) : Int)), (65, .int .i64 ((0 : Nat) : Int))] (by simp [h1, h5, h6, h8, h9]) hds ?_
    clear hK10 h1 h5 h6 h8 h9 hds; intro s hs hds
    obtain ⟨h5, h6, h8, h9, h63, h64, h65⟩ := facts7 hs; clear hs
    exact fin _ (by assumption) (([] : List T3)) g cp w3 s hrow3 hfr3 hg (by simp) (by simp) h5 h6 h8 h63 h64 h65 hds
  · have hcell2 : ∀ j u, (zs.flatMap T3.enc)[j]? = some u → w2.cell? (a.add j) = some u := by
      intro j u hu
      have hc := hcell j u hu
      rw [World.cell?_of_block (hw2.block _ (World.block_lt_of_cell? w _ hc) (fun h => h))]
      exact hc
    by_cases h120 : zs.length ≤ 120
    · have d0 : ¬ 120 < (zs.length : Int) := by omega
      obtain ⟨g, cp, w3, hap, hrow3, hfr3, hg⟩ := calls_row w2 bk (.slice none 0 0) (.slice (some a) zs.length cap) zs zs hrow0 (List.take_of_length_le h120).symm (.inr ⟨a, cap, rfl, hcell2⟩)
      (conv => arg 4; whnf)
      refine fw_region_lit rfl ?_
      refine ops_take 6 fun KO hKO => ?_
      simp [go_sem, opsF, opF, upF, Region.wanted, Fr.ev, Fr.put, thenE, inBlockE, Oper.semAt, yieldF, h1, h5, h6, h8, h9, d0, hcap]
      refine hKO _ _ ?_
      clear hKO
      refine ops_append rfl rfl rfl (v := .slice (some ⟨bk, 0, none⟩) 8 8) (u := .slice (some a) zs.length cap) (by simp [Fr.ev, Fr.put, h9]) (by simp [Fr.ev, Fr.put]) hap ?_
      simp [go_sem, opsF, opF, upF, Region.wanted, Fr.ev, Fr.put, thenE, inBlockE, Oper.semAt, yieldF, h1, h5, h6, h8, h9]
      refine on_kf hK10 [(5, .int .i64 N), (6, .pointer (some ⟨w.heap.size + 1, 0, none⟩)), (8, .slice none 0 0), (9, .slice (some ⟨bk, 0, none⟩) 8 8), (63, .slice (some ⟨g, 0, none⟩) (8 + (zs).length) cp), (64, .int .i64 ((8 + (zs).length : Nat) : Int)), (65, .int .i64 ((0 : Nat) : Int))] (by simp [h1, h5, h6, h8, h9]) hds ?_
      clear hK10 h1 h5 h6 h8 h9 hds; intro s hs hds
      obtain ⟨h5, h6, h8, h9, h63, h64, h65⟩ := facts7 hs; clear hs
      exact fin _ (by assumption) (zs) g cp w3 s hrow3 hfr3 hg (by omega) (hok) h5 h6 h8 h63 h64 h65 hds
    · have d0 : 120 < (zs.length : Int) := by omega
      have d1 : (120 : Int) ≤ (cap : Int) := by omega
      have hlen : (zs.take 120).length = 120 := by rw [List.length_take]; omega
      obtain ⟨g, cp, w3, hap, hrow3, hfr3, hg⟩ := calls_row w2 bk (.slice none 0 0) (.slice (some a) 120 cap) zs (zs.take 120) hrow0 rfl (.inr ⟨a, cap, by rw [hlen], fun j x hx => hcell2 j x (by
        rw [← flat_take T3.enc 3 T3.enc_len zs 120, List.getElem?_take] at hx
        split at hx
        · exact hx
        · cases hx)⟩)
      (conv => arg 4; whnf)
      refine fw_region_lit rfl ?_
      refine ops_take 6 fun KO hKO => ?_
      simp [go_sem, opsF, opF, upF, Region.wanted, Fr.ev, Fr.put, thenE, inBlockE, Oper.semAt, yieldF, h1, h5, h6, h8, h9, d0, d1]
      refine hKO _ _ ?_
      clear hKO
      refine ops_append rfl rfl rfl (v := .slice (some ⟨bk, 0, none⟩) 8 8) (u := .slice (some a) 120 cap) (by simp [Fr.ev, Fr.put, h9]) (by simp [Fr.ev, Fr.put]) hap ?_
      simp [go_sem, opsF, opF, upF, Region.wanted, Fr.ev, Fr.put, thenE, inBlockE, Oper.semAt, yieldF, h1, h5, h6, h8, h9]
      refine on_kf hK10 [(5, .int .i64 N), (6, .pointer (some ⟨w.heap.size + 1, 0, none⟩)), (8, .slice none 0 0), (9, .slice (some ⟨bk, 0, none⟩) 8 8), (63, .slice (some ⟨g, 0, none⟩) (8 + (zs.take 120).length) cp), (64, .int .i64 ((8 + (zs.take 120).length : Nat) : Int)), (65, .int .i64 ((0 : Nat) : Int))] (by simp [h1, h5, h6, h8, h9]) hds ?_
      clear hK10 h1 h5 h6 h8 h9 hds; intro s hs hds
      obtain ⟨h5, h6, h8, h9, h63, h64, h65⟩ := facts7 hs; clear hs
      exact fin _ (by assumption) (zs.take 120) g cp w3 s hrow3 hfr3 hg (by omega) (fun t ht => hok t (List.mem_of_mem_take ht)) h5 h6 h8 h63 h64 h65 hds
end Go.Proofs.Ytiejaopidkghdaa
