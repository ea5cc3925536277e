/- Asking for a height. -/
import Derived.Test.YtiejaopidkghdaaFb
namespace Go.Proofs.Ytiejaopidkghdaa
set_option linter.unusedSimpArgs false
set_option linter.unusedVariables false
open Go.RowKit Go.Lf

theorem mixed : Try.prog.follows .mixedOrders = true := by kernel_rfl
noncomputable def body8 : Code := Try.f8.body.getD .skip
theorem info31 : (Try.prog.info? 31).map (fun i => (i.zero, i.size, i.bytes)) = some (some (.agg #[.int .i64 0, .int .i64 0, .int .i64 0, .int .i64 0, .bool false]), 5, 40) := by kernel_rfl
theorem zero3 (w : World) : (zeroValue 3).run Try.prog w = .ok (.int .i64 0) w := by kernel_rfl

theorem ask_new (fb : Nat) (N : Int) (l : List Rq) (S : Nat → Prop) (to h now : Int) (w : World) (hF : Flight w fb N l S) (ht : 0 ≤ to ∧ to < N ∧ N ≤ 16) (hh : 1 ≤ h ∧ h ≤ 1073741824) (hn : 0 ≤ now ∧ now ≤ 1099511627776)
    (hno : ∀ (i : Nat) (r : Rq), l[i]? = some r → r.op = true → r.to = to → r.h = h → False) (hlen : l.length < 65536) :
    CallsV Try.prog 8 #[.pointer (some ⟨fb, 0, none⟩), .int .i64 to, .int .i64 h, .int .i64 now] w fun v w' => v = .tuple #[.int .i64 ((l.length : Int) + 1), .bool true, .int .i64 0] ∧
      ∃ S', Flight w' fb N (l ++ [⟨(l.length : Int) + 1, to, h, now, true⟩]) S' ∧ (∀ b, S' b → S b ∨ w.heap.size ≤ b) ∧ Frm S w w' := by
  obtain ⟨⟨mb, lv, F, hfl, hm, hok, s1, s2, s3⟩, hlt⟩ := hF
  have c0 : w.cell? ⟨fb, 0, none⟩ = some (.int .i64 N) := hfl.blk.cell 0
  have c1 : w.cell? ⟨fb, 1, none⟩ = some lv := hfl.blk.cell 1
  have c2 : w.cell? ⟨fb, 2, none⟩ = some (.map (some mb)) := hfl.blk.cell 2
  have hnn := none_any fb (some mb) w c2
  obtain ⟨kl, hkey⟩ := spot_key (a := to) (b := h) (WalkArith.wf_i64 (by omega)) (WalkArith.wf_i64 (by omega))
  have hFn : F (spot to h) = none := by
    cases hf : F (spot to h) with
    | none => rfl
    | some v =>
      obtain ⟨i, r, hr, h1, h2, h3, _⟩ := (hok to h v).1 hf
      exact (hno i r hr h1 h2 h3).elim
  have hlook := hm.look key53 Try.underlying47 (zero3 w) hkey
  rw [hFn] at hlook
  simp only [spot] at hlook
  refine calls_at body8 Try.func8 rfl 92 rfl (by simp) fun s hs hds => ?_
  have h0 := hs 0 _ rfl
  have h1 := hs 1 _ rfl
  have h2 := hs 2 _ rfl
  have h3 := hs 3 _ rfl
  clear hs
  refine at_seq rfl fun K1 hK1 => ?_
  (conv => arg 4; whnf)
  refine fw_region_lit rfl ?_
  simp [go_sem, opsF, opF, upF, Region.wanted, Fr.ev, Fr.put, thenE, inBlockE, Oper.semAt, yieldF, h0, h1, h2, h3]
  refine on_kf hK1 [(0, .pointer (some ⟨fb, 0, none⟩)), (1, .int .i64 to), (2, .int .i64 h), (3, .int .i64 now)] (by simp [h0, h1, h2, h3]) hds ?_
  clear hK1 h0 h1 h2 h3 hds; intro s hs hds
  obtain ⟨h0, h1, h2, h3⟩ := facts4 hs; clear hs
  refine at_seq rfl fun K2 hK2 => ?_
  refine at_block 0 rfl ?_
  refine at_seq rfl fun K3 hK3 => ?_
  (conv => arg 4; whnf)
  refine fw_region_lit rfl ?_
  simp [go_sem, opsF, opF, upF, Region.wanted, Fr.ev, Fr.put, thenE, inBlockE, Oper.semAt, yieldF, h0, h1, h2, h3]
  refine hnn.on ?_
  rintro v w' ⟨rfl, rfl⟩
  clear hnn
  refine on_kf hK3 [(0, .pointer (some ⟨fb, 0, none⟩)), (1, .int .i64 to), (2, .int .i64 h), (3, .int .i64 now), (14, .bool false)] (by simp [h0, h1, h2, h3]) hds ?_
  clear hK3 h0 h1 h2 h3 hds; intro s hs hds
  obtain ⟨h0, h1, h2, h3, h14⟩ := facts5 hs; clear hs
  refine at_false 14 rfl h14 ?_
  have d1 : ¬ to < 0 := by omega
  have d2 : ¬ N ≤ to := by omega
  have d3 : ¬ h < 1 := by omega
  have d4 : ¬ 1073741824 < h := by omega
  have d5 : ¬ now < 0 := by omega
  have d6 : ¬ 1099511627776 < now := by omega
  refine at_seq rfl fun K4 hK4 => ?_
  (conv => arg 4; whnf)
  refine fw_region_lit rfl ?_
  simp [go_sem, opsF, opF, upF, Region.wanted, Fr.ev, Fr.put, thenE, inBlockE, Oper.semAt, yieldF, h0, h1, h2, h3, h14, c0, d1, d2, d3, d4, d5, d6]
  refine on_kf hK4 [(0, .pointer (some ⟨fb, 0, none⟩)), (1, .int .i64 to), (2, .int .i64 h), (3, .int .i64 now), (17, .bool false)] (by simp [h0, h1, h2, h3, h14]) hds ?_
  clear hK4 h0 h1 h2 h3 h14 hds; intro s hs hds
  obtain ⟨h0, h1, h2, h3, h17⟩ := facts5 hs; clear hs
  refine at_false 17 rfl h17 ?_
  refine at_skip rfl ?_
  simp only [inBlockE, thenE]
  refine on_kf hK2 [(0, .pointer (some ⟨fb, 0, none⟩)), (1, .int .i64 to), (2, .int .i64 h), (3, .int .i64 now)] (by simp [h0, h1, h2, h3, h17]) hds ?_
  clear hK2 h0 h1 h2 h3 h17 hds; intro s hs hds
  obtain ⟨h0, h1, h2, h3⟩ := facts4 hs; clear hs
  refine at_seq rfl fun K5 hK5 => ?_
  refine at_seq rfl fun K6 hK6 => ?_
  (conv => arg 4; whnf)
  refine fw_region_lit rfl ?_
  simp [go_sem, opsF, opF, upF, Region.wanted, Fr.ev, Fr.put, thenE, inBlockE, Oper.semAt, yieldF, h0, h1, h2, h3, c2, hlook]
  refine on_kf hK6 [(0, .pointer (some ⟨fb, 0, none⟩)), (1, .int .i64 to), (2, .int .i64 h), (3, .int .i64 now), (11, .int .i64 0), (12, .bool false)] (by simp [h0, h1, h2, h3]) hds ?_
  clear hK6 h0 h1 h2 h3 hds; intro s hs hds
  obtain ⟨h0, h1, h2, h3, h11, h12⟩ := facts6 hs; clear hs
  refine at_seq rfl fun K7 hK7 => ?_
  (conv => arg 4; whnf)
  refine fw_region_lit rfl ?_
  simp [go_sem, opsF, opF, upF, Region.wanted, Fr.ev, Fr.put, thenE, inBlockE, Oper.semAt, yieldF, h0, h1, h2, h3, h11, h12]
  refine on_kf hK7 [(0, .pointer (some ⟨fb, 0, none⟩)), (1, .int .i64 to), (2, .int .i64 h), (3, .int .i64 now), (11, .int .i64 0), (12, .bool false), (55, .bool false)] (by simp [h0, h1, h2, h3, h11, h12]) hds ?_
  clear hK7 h0 h1 h2 h3 h11 h12 hds; intro s hs hds
  obtain ⟨h0, h1, h2, h3, h11, h12, h55⟩ := facts7 hs; clear hs
  refine at_false 55 rfl h55 ?_
  refine at_skip rfl ?_
  simp only [inBlockE, thenE]
  refine on_kf hK5 [(0, .pointer (some ⟨fb, 0, none⟩)), (1, .int .i64 to), (2, .int .i64 h), (3, .int .i64 now)] (by simp [h0, h1, h2, h3, h11, h12, h55]) hds ?_
  clear hK5 h0 h1 h2 h3 h11 h12 h55 hds; intro s hs hds
  obtain ⟨h0, h1, h2, h3⟩ := facts4 hs; clear hs
  obtain ⟨ad, cap, rfl⟩ : ∃ ad cap, lv = .slice ad l.length cap := by
    rcases hfl.row.val with ⟨h, h', _⟩ | ⟨g, cap, h, _⟩
    · exact ⟨none, 0, by rw [h, h']⟩
    · exact ⟨_, cap, h⟩
  have d7 : ¬ (65536 : Int) ≤ (l.length : Int) := by omega
  refine at_seq rfl fun K8 hK8 => ?_
  refine at_seq rfl fun K9 hK9 => ?_
  (conv => arg 4; whnf)
  refine fw_region_lit rfl ?_
  simp [go_sem, opsF, opF, upF, Region.wanted, Fr.ev, Fr.put, thenE, inBlockE, Oper.semAt, yieldF, h0, h1, h2, h3, c1, d7]
  refine on_kf hK9 [(0, .pointer (some ⟨fb, 0, none⟩)), (1, .int .i64 to), (2, .int .i64 h), (3, .int .i64 now), (62, .bool false)] (by simp [h0, h1, h2, h3]) hds ?_
  clear hK9 h0 h1 h2 h3 hds; intro s hs hds
  obtain ⟨h0, h1, h2, h3, h62⟩ := facts5 hs; clear hs
  refine at_false 62 rfl h62 ?_
  refine at_skip rfl ?_
  simp only [inBlockE, thenE]
  refine on_kf hK8 [(0, .pointer (some ⟨fb, 0, none⟩)), (1, .int .i64 to), (2, .int .i64 h), (3, .int .i64 now)] (by simp [h0, h1, h2, h3, h62]) hds ?_
  clear hK8 h0 h1 h2 h3 h62 hds; intro s hs hds
  obtain ⟨h0, h1, h2, h3⟩ := facts4 hs; clear hs
  have d8 : IntKind.i64.wrap ((l.length : Int) + 1) = (l.length : Int) + 1 := IntWalk.i64_in _ (by omega)
  refine at_seq rfl fun K10 hK10 => ?_
  (conv => arg 4; whnf)
  refine fw_region_lit rfl ?_
  simp [go_sem, opsF, opF, upF, Region.wanted, Fr.ev, Fr.put, thenE, inBlockE, Oper.semAt, yieldF, h0, h1, h2, h3, c1, d8]
  refine on_kf hK10 [(0, .pointer (some ⟨fb, 0, none⟩)), (1, .int .i64 to), (2, .int .i64 h), (3, .int .i64 now), (13, .int .i64 ((l.length : Int) + 1))] (by simp [h0, h1, h2, h3]) hds ?_
  clear hK10 h0 h1 h2 h3 hds; intro s hs hds
  obtain ⟨h0, h1, h2, h3, h13⟩ := facts5 hs; clear hs
  have hne : ∀ k, (Value.slice ad l.length cap).ownBlock = some k → k ≠ fb ∧ k ≠ mb := by
    intro k hk
    obtain ⟨cur, hcur⟩ := hfl.row.obj hk
    have hb : w.heap[fb]? = _ := hfl.blk
    obtain ⟨es, ck, hmb, _⟩ := hm
    constructor <;> intro e <;> subst e
    · rw [hcur] at hb; cases hb
    · rw [hcur] at hmb; cases hmb
  have hmf : mb ≠ fb := by
    intro e
    subst e
    have hb : w.heap[mb]? = _ := hfl.blk
    obtain ⟨es, ck, hmb, _⟩ := hm
    rw [hmb] at hb; cases hb
  have hA := Frm.alloc (fun _ => False) w (.cells #[.int .i64 ((l.length : Int) + 1), .int .i64 to, .int .i64 h, .int .i64 now, .bool true] 31)
  have hrowA := hfl.row.frm hA (fun _ _ h => h)
  obtain ⟨v', w1, hap, hrow1, hfr1, _, hown1⟩ := hrowA.append (P := Try.prog) (t := 27) (ty := 27) Try.underlying27 info31 rfl (by decide) ⟨w.heap.size, 0, none⟩ 1 1 _ rfl
    (new_cells w [.int .i64 ((l.length : Int) + 1), .int .i64 to, .int .i64 h, .int .i64 now, .bool true] 31) (by simp [Value.oneCell']) (by unfold maxLen; omega) (by omega)
  have hfbw1 : Blk w1 fb _ 49 := (hfl.blk.frm hA (fun h => h)).frm hfr1 (fun h => (hne fb h).1 rfl)
  have k0 : w1.cell? ⟨fb, 0, none⟩ = some (.int .i64 N) := hfbw1.cell 0
  have k1 : w1.cell? ⟨fb, 1, none⟩ = some (.slice ad l.length cap) := hfbw1.cell 1
  have k2 : w1.cell? ⟨fb, 2, none⟩ = some (.map (some mb)) := hfbw1.cell 2
  have kf : w1.frozen? ⟨fb, 1, none⟩ = false := hfbw1.frozen 1
  obtain ⟨g', cap', rfl⟩ : ∃ g' cap', v' = .slice (some ⟨g', 0, none⟩) (l.length + 1) cap' := by
    rcases hrow1.val with ⟨_, h, _⟩ | ⟨g, cap, h, _⟩
    · omega
    · exact ⟨g, cap, h⟩
  refine at_seq rfl fun K11 hK11 => ?_
  (conv => arg 4; whnf)
  refine fw_region_lit rfl ?_
  refine ops_take 11 fun KO hKO => ?_
  simp [go_sem, opsF, opF, upF, Region.wanted, Fr.ev, Fr.put, thenE, inBlockE, Oper.semAt, yieldF, h0, h1, h2, h3, h13, c1]
  refine hKO _ _ ?_
  clear hKO
  refine ops_append rfl rfl rfl (v := .slice ad l.length cap) (u := .slice (some ⟨w.heap.size, 0, none⟩) 1 1) (by simp [Fr.ev]) (by simp [Fr.ev]) hap ?_
  simp [go_sem, opsF, opF, upF, Region.wanted, Fr.ev, Fr.put, thenE, inBlockE, Oper.semAt, yieldF, h0, h1, h2, h3, h13, k1, kf]
  refine on_kf hK11 [(0, .pointer (some ⟨fb, 0, none⟩)), (1, .int .i64 to), (2, .int .i64 h), (3, .int .i64 now), (13, .int .i64 ((l.length : Int) + 1))] (by simp [h0, h1, h2, h3, h13]) hds ?_
  clear hK11 h0 h1 h2 h3 h13 hds; intro s hs hds
  obtain ⟨h0, h1, h2, h3, h13⟩ := facts5 hs; clear hs
  have hfb2 : Blk (w1.setCell ⟨fb, 1, none⟩ (.slice (some ⟨g', 0, none⟩) (l.length + 1) cap')) fb #[.int .i64 N, .slice (some ⟨g', 0, none⟩) (l.length + 1) cap', .map (some mb)] 49 := hfbw1.set 1 _
  have hset := Frm.setCell (S := fun k => k = fb) w1 ⟨fb, 1, none⟩ (.slice (some ⟨g', 0, none⟩) (l.length + 1) cap') rfl
  have hmw2 := ((hm.frm hA (fun h => h)).frm hfr1 (fun h => (hne mb h).2 rfl)).frm hset hmf
  obtain ⟨o, hup, hm3⟩ := hmw2.update key53 Try.underlying47 hkey (.int .i64 ((l.length : Int) + 1))
  simp only [spot] at hup
  have k3 := hfb2.cell 2
  refine at_seq rfl fun K12 hK12 => ?_
  (conv => arg 4; whnf)
  refine fw_region_lit rfl ?_
  simp [go_sem, opsF, opF, upF, Region.wanted, Fr.ev, Fr.put, thenE, inBlockE, Oper.semAt, yieldF, h0, h1, h2, h3, h13, k3, hup]
  refine on_kf hK12 [(0, .pointer (some ⟨fb, 0, none⟩)), (1, .int .i64 to), (2, .int .i64 h), (3, .int .i64 now), (13, .int .i64 ((l.length : Int) + 1))] (by simp [h0, h1, h2, h3, h13]) hds ?_
  clear hK12 h0 h1 h2 h3 h13 hds; intro s hs hds
  obtain ⟨h0, h1, h2, h3, h13⟩ := facts5 hs; clear hs
  refine at_seq rfl fun K13 hK13 => ?_
  (conv => arg 4; whnf)
  refine fw_region_lit rfl ?_
  simp [go_sem, opsF, opF, upF, Region.wanted, Fr.ev, Fr.put, thenE, inBlockE, Oper.semAt, yieldF, h0, h1, h2, h3, h13]
  refine on_kf hK13 [(0, .pointer (some ⟨fb, 0, none⟩)), (1, .int .i64 to), (2, .int .i64 h), (3, .int .i64 now), (8, .int .i64 ((l.length : Int) + 1)), (9, .bool true), (10, .int .i64 0), (13, .int .i64 ((l.length : Int) + 1))] (by simp [h0, h1, h2, h3, h13]) hds ?_
  clear hK13 h0 h1 h2 h3 h13 hds; intro s hs hds
  obtain ⟨h0, h1, h2, h3, h8, h9, h10, h13⟩ := facts8 hs; clear hs
  refine at_ret rfl (ret_three rfl hds ?_)
  rw [h8, h9, h10]
  have hne' : ∀ k, (Value.slice (some ⟨g', 0, none⟩) (l.length + 1) cap').ownBlock = some k → k ≠ fb ∧ k ≠ mb := by
    intro k hk
    obtain ⟨cur, hcur⟩ := hrow1.obj hk
    have hb : w1.heap[fb]? = _ := hfbw1
    obtain ⟨es, ck, hmb, _⟩ := (hm.frm hA (fun h => h)).frm hfr1 (fun h => (hne mb h).2 rfl)
    constructor <;> intro e <;> subst e
    · rw [hcur] at hb; cases hb
    · rw [hcur] at hmb; cases hmb
  have hlen1 : (l ++ [(⟨(l.length : Int) + 1, to, h, now, true⟩ : Rq)]).length = l.length + 1 := by simp
  have hput := Frm.putObj (S := fun k => k = mb) (w1.setCell ⟨fb, 1, none⟩ (.slice (some ⟨g', 0, none⟩) (l.length + 1) cap')) mb o rfl
  have hS1 : w1.heap.size = (w1.setCell ⟨fb, 1, none⟩ (.slice (some ⟨g', 0, none⟩) (l.length + 1) cap')).heap.size := by simp [World.setCell]
  have hA1 : w.heap.size ≤ w1.heap.size := Nat.le_trans hA.size hfr1.size
  refine ⟨rfl, fun b => S b ∨ (w.heap.size ≤ b ∧ b < w1.heap.size), ⟨⟨mb, .slice (some ⟨g', 0, none⟩) (l.length + 1) cap', _, ⟨hfb2.frm hput (fun e => hmf e.symm), ?_⟩, hm3, ?_, .inl s1, .inl s2, ?_⟩, ?_⟩, fun b hb => hb.imp id (fun h => h.1), ?_⟩
  · rw [hlen1]
    have hc : cellsOf (l ++ [(⟨(l.length : Int) + 1, to, h, now, true⟩ : Rq)]) = cellsOf l ++ [.int .i64 ((l.length : Int) + 1), .int .i64 to, .int .i64 h, .int .i64 now, .bool true] := by simp [cellsOf, Rq.enc]
    rw [hc]
    exact (hrow1.frm hset (fun k hk => (hne' k hk).1)).frm hput (fun k hk => (hne' k hk).2)
  · intro a b v
    by_cases hab : spot a b = spot to h
    · obtain ⟨rfl, rfl⟩ := spot_inj hab
      dsimp only
      rw [if_pos rfl]
      constructor
      · intro hv
        cases hv
        exact ⟨l.length, ⟨(l.length : Int) + 1, a, b, now, true⟩, by simp, rfl, rfl, rfl, rfl⟩
      · rintro ⟨i, r, hr, h1, h2, h3, rfl⟩
        rcases Nat.lt_or_ge i l.length with hi | hi
        · rw [List.getElem?_append_left hi] at hr
          exact (hno i r hr h1 h2 h3).elim
        · rw [List.getElem?_append_right hi] at hr
          have : i - l.length = 0 := by
            have := (List.getElem?_eq_some_iff.1 hr).1
            simp at this; omega
          have : i = l.length := by omega
          subst this
          rfl
    · dsimp only
      rw [if_neg hab, hok]
      constructor
      · rintro ⟨i, r, hr, h1, h2, h3, h4⟩
        exact ⟨i, r, by rw [List.getElem?_append_left (List.getElem?_eq_some_iff.1 hr).1]; exact hr, h1, h2, h3, h4⟩
      · rintro ⟨i, r, hr, h1, h2, h3, h4⟩
        rcases Nat.lt_or_ge i l.length with hi | hi
        · rw [List.getElem?_append_left hi] at hr
          exact ⟨i, r, hr, h1, h2, h3, h4⟩
        · rw [List.getElem?_append_right hi] at hr
          have : i - l.length = 0 := by
            have := (List.getElem?_eq_some_iff.1 hr).1
            simp at this; omega
          rw [this] at hr
          simp at hr
          subst hr
          exact absurd (by rw [← h2, ← h3]) hab
  · intro k hk
    rcases hown1 k hk with h | h
    · exact .inl (s3 k h)
    · exact .inr ⟨by have := hA.size; omega, h.2⟩
  · intro b hb
    rw [World.putObj_size, ← hS1]
    rcases hb with h | h
    · have := hlt b h; omega
    · exact h.2
  · exact (((hA.mono (S' := S) (fun _ _ h => h.elim)).trans hfr1 (fun i _ h => s3 i h)).trans hset (fun i _ h => h ▸ s1)).trans hput (fun i _ h => h ▸ s2)
end Go.Proofs.Ytiejaopidkghdaa
