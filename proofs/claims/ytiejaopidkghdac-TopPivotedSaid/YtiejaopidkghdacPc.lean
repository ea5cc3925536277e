/- The stack: Split, Pop, Push, Reset, New. -/
import Derived.Test.YtiejaopidkghdacPb
namespace Go.Proofs.Ytiejaopidkghdac
set_option linter.unusedSimpArgs false
set_option linter.unusedVariables false
open Go.RowKit Go.Lf

/-- Heights above a base, the least on top. -/
structure WF (base : Int) (l : List Int) : Prop where
  b1 : 1 ≤ base
  b2 : base ≤ 400
  down : l.Pairwise (· > ·)
  all : ∀ x ∈ l, base < x ∧ x ≤ 400

theorem WF.top {base : Int} {l : List Int} (h : WF base l) (hl : l ≠ []) : base < topOf l ∧ topOf l ≤ 400 := by
  have : topOf l = l.getLast hl := by simp [topOf, List.getLast?_eq_some_getLast hl]
  rw [this]
  exact h.all _ (List.getLast_mem hl)

theorem len_le : ∀ (l : List Int) (b c : Int), l.Pairwise (· > ·) → (∀ x ∈ l, b < x ∧ x ≤ c) → (l.length : Int) ≤ max 0 (c - b)
  | [], b, c, _, _ => by simp; omega
  | x :: l, b, c, hp, hm => by
    have hx := hm x (by simp)
    rw [List.pairwise_cons] at hp
    have := len_le l b (x - 1) hp.2 (fun y hy => ⟨(hm y (by simp [hy])).1, by have := hp.1 y hy; omega⟩)
    simp only [List.length_cons]
    omega
theorem WF.len {base : Int} {l : List Int} (h : WF base l) : l.length ≤ 400 := by
  have := len_le l base 400 h.down h.all
  have := h.b1
  omega

theorem WF.push {base : Int} {l : List Int} (h : WF base l) {x : Int} (h1 : base < x) (h2 : x < topOf l) (hl : l ≠ []) : WF base (l ++ [x]) := by
  have ht := h.top hl
  refine ⟨h.b1, h.b2, ?_, fun y hy => ?_⟩
  · rw [List.pairwise_append]
    refine ⟨h.down, by simp, fun a ha b hb => ?_⟩
    simp only [List.mem_singleton] at hb
    subst hb
    have htl : topOf l = l.getLast hl := by simp [topOf, List.getLast?_eq_some_getLast hl]
    have : topOf l ≤ a := by
      rw [htl]
      obtain ⟨i, hi, rfl⟩ := List.getElem_of_mem ha
      rw [List.getLast_eq_getElem]
      rcases Nat.lt_or_ge i (l.length - 1) with h' | h'
      · have := List.pairwise_iff_getElem.1 h.down i (l.length - 1) hi (by omega) h'
        omega
      · have : i = l.length - 1 := by omega
        subst this
        exact Int.le_refl _
    show a > b
    omega
  · rcases List.mem_append.1 hy with hy | hy
    · exact h.all y hy
    · simp only [List.mem_singleton] at hy
      subst hy
      omega

theorem WF.pop {base : Int} {l : List Int} (h : WF base l) (hl : l ≠ []) : WF (topOf l) l.dropLast := by
  have ht := h.top hl
  have htl : topOf l = l.getLast hl := by simp [topOf, List.getLast?_eq_some_getLast hl]
  have hs : l = l.dropLast ++ [topOf l] := by rw [htl]; exact (List.dropLast_concat_getLast hl).symm
  have hp := h.down
  rw [hs, List.pairwise_append] at hp
  refine ⟨by have := h.b1; omega, ht.2, hp.1, fun x hx => ⟨?_, (h.all x (List.dropLast_subset l hx)).2⟩⟩
  have := hp.2.2 x hx (topOf l) (by simp)
  exact this

/-- What a call may turn: the stack's block, its row; the row it has now. -/
structure Mut (w w' : World) (sb : Nat) (lv lv' : Value) : Prop where
  frm : Frm (fun b => b = sb ∨ lv.ownBlock = some b) w w'
  own : ∀ k, lv'.ownBlock = some k → lv.ownBlock = some k ∨ w.heap.size ≤ k

theorem Mut.of_new {w w' : World} {sb : Nat} {lv : Value} (h : New w w') : Mut w w' sb lv lv := ⟨h.mono (fun _ _ h => h.elim), fun k hk => .inl hk⟩
theorem Mut.trans {a b c : World} {sb : Nat} {l1 l2 l3 : Value} (h : Mut a b sb l1 l2) (k : Mut b c sb l2 l3) : Mut a c sb l1 l3 :=
  ⟨h.frm.trans k.frm (fun i hi hs => by
      rcases hs with hs | hs
      · exact .inl hs
      · rcases h.own i hs with h' | h'
        · exact .inr h'
        · omega), fun x hx => by
      have := h.frm.size
      rcases k.own x hx with h' | h'
      · exact h.own x h'
      · exact .inr (by omega)⟩

noncomputable def body9 : Code := Try.f9.body.getD .skip
theorem call9 (args : Array Value) (w : World) : (callFunc 9 args).run Try.prog w = .ok (.enter 9 args) w := callFunc_enter Try.func9 (by kernel_rfl) (by kernel_rfl) args w
theorem split_any (sb : Nat) (base root target : Int) (lv : Value) (l : List Int) (w : World) (h : SI w sb base root target lv l) (hr : 1 ≤ root) (hw : WF base l) :
    CallsV Try.prog 9 #[.pointer (some ⟨sb, 0, none⟩)] w fun v w' => if l = [] ∨ topOf l = base + 1 then v = .tuple #[.int .i64 0, .int .i64 11] ∧ New w w'
      else v = .tuple #[.int .i64 (midOf base (topOf l)), .int .i64 0] ∧ ∃ lv', SI w' sb base root target lv' (l ++ [midOf base (topOf l)]) ∧ Mut w w' sb lv lv' := by
  have x0 := h.blk.cell 0
  have b1 := hw.b1
  have b2 := hw.b2
  have d1 : IntKind.i64.wrap (base + 1) = base + 1 := IntWalk.i64_in _ (by omega)
  refine calls_at body9 Try.func9 rfl 38 rfl (by simp) fun s hs hds => ?_
  have h0 := hs 0 _ rfl
  clear hs
  refine at_seq rfl fun K1 hK1 => ?_
  (conv => arg 4; whnf)
  refine fw_region_lit rfl ?_
  simp [go_sem, opsF, opF, upF, Region.wanted, Fr.ev, Fr.put, thenE, inBlockE, Oper.semAt, yieldF, h0]
  refine on_kf hK1 [(0, _)] (fa_cons h0 fa_nil) hds ?_
  clear hK1 h0 hds; intro s hs hds
  have h0 : s.t 0 = _ := hs (0, _) (List.mem_singleton_self _); clear hs
  refine at_seq rfl fun K2 hK2 => ?_
  refine at_block 0 rfl ?_
  refine at_seq rfl fun K3 hK3 => ?_
  (conv => arg 4; whnf)
  refine fw_region_lit rfl ?_
  refine ops_take 1 fun KO hKO => ?_
  simp [go_sem, opsF, opF, upF, Region.wanted, Fr.ev, Fr.put, thenE, inBlockE, Oper.semAt, yieldF, h0]
  refine hKO _ _ ?_
  clear hKO
  simp only [List.drop_succ_cons, List.drop_zero]
  refine ops_call rfl rfl rfl call20 (by simp [Fr.ev, h0] <;> rfl) ?_
  refine (none_no sb base root target _ l w h hr).on ?_
  rintro _ w1 ⟨rfl, rfl⟩
  simp [go_sem, opsF, opF, upF, Region.wanted, Fr.ev, Fr.put, thenE, inBlockE, Oper.semAt, yieldF, h0]
  refine on_kf hK3 [(0, _), (6, _)] (fa_cons h0 (fa_cons (by simp [h0] <;> rfl) fa_nil)) hds ?_
  clear hK3 h0 hds; intro s hs hds
  obtain ⟨h0, h6⟩ := facts2 hs; clear hs
  refine at_false 6 rfl h6 ?_
  by_cases hl : l = []
  · refine at_seq rfl fun K4 hK4 => ?_
    (conv => arg 4; whnf)
    refine' fw_region_facts 13 (FL [(IsV _), (IsV _), (IsV _), (IsV _), (IsV _), (IsV _), (IsV _), (IsV _), (IsV _), (IsV _), (IsV _), (IsV _), (IsV _)]) mixed (by kernel_rfl) (by kernel_rfl) (by kernel_rfl) (by kernel_rfl) (fl_st _ ⟨stb_isV _, ⟨stb_isV _, ⟨stb_isV _, ⟨stb_isV _, ⟨stb_isV _, ⟨stb_isV _, ⟨stb_isV _, ⟨stb_isV _, ⟨stb_isV _, ⟨stb_isV _, ⟨stb_isV _, ⟨stb_isV _, ⟨stb_isV _, trivial⟩⟩⟩⟩⟩⟩⟩⟩⟩⟩⟩⟩⟩) (all_lt_succ (all_lt_succ (all_lt_succ (all_lt_succ (all_lt_succ (all_lt_succ (all_lt_succ (all_lt_succ (all_lt_succ (all_lt_succ (all_lt_succ (all_lt_succ (all_lt_succ all_lt_zero ?q5o0) ?q5o1) ?q5o2) ?q5o3) ?q5o4) ?q5o5) ?q5o6) ?q5o7) ?q5o8) ?q5o9) ?q5o10) ?q5o11) ?q5o12) ?q5t
    case q5o0 =>
      intro s w' o ho hN hRd hFd next hnext
      cases ho
      have h0 := (hRd 0 (by kernel_rfl)).trans h0
      simp [go_sem, opsF, opF, upF, Region.wanted, Fr.ev, Fr.put, thenE, inBlockE, Oper.semAt, yieldF, h0]
      first | (refine hnext _ _ (Frm.refl _ _) (fl_z ?_); exact isV) | exact hnext _ _ (Frm.refl _ _) (fl_z trivial) | (refine fl_z ?_; exact isV)
    case q5o1 =>
      intro s w' o ho hN hRd hFd next hnext
      cases ho
      have f10 := isV_eq (of_z ((hFd 0 10 (by kernel_rfl) rfl)))
      have x0 := cell_new hN x0
      rw [if_pos (by simp [Region.wanted, yieldF, f10, x0])]
      refine opF_call rfl call5 (by simp [Fr.ev, f10, x0] <;> rfl) ?_
      refine (done_any sb base root target _ l _ (h.new hN) hr).on ?_
      rintro _ w2 ⟨rfl, rfl⟩
      rw [decide_eq_true hl]
      refine hnext _ _ (Frm.refl _ _) (fl_s (fl_z ?_))
      exact isV
    case q5o2 =>
      intro s w' o ho hN hRd hFd next hnext
      cases ho
      have f11 := isV_eq (of_z (of_s ((hFd 1 11 (by kernel_rfl) rfl))))
      simp [go_sem, opsF, opF, upF, Region.wanted, Fr.ev, Fr.put, thenE, inBlockE, Oper.semAt, yieldF, f11]
      first | (refine hnext _ _ (Frm.refl _ _) (fl_s (fl_s (fl_z ?_))); exact isV) | exact hnext _ _ (Frm.refl _ _) (fl_s (fl_s (fl_z trivial))) | (refine fl_s (fl_s (fl_z ?_)); exact isV)
    case q5o3 =>
      intro s w' o ho hN hRd hFd next hnext
      cases ho
      have h0 := (hRd 0 (by kernel_rfl)).trans h0
      have f12 := isV_eq (of_z (of_s (of_s ((hFd 2 12 (by kernel_rfl) rfl)))))
      simp [go_sem, opsF, opF, upF, Region.wanted, Fr.ev, Fr.put, thenE, inBlockE, Oper.semAt, yieldF, h0, f12]
      first | (refine hnext _ _ (Frm.refl _ _) (fl_s (fl_s (fl_s (fl_z ?_)))); exact isV) | exact hnext _ _ (Frm.refl _ _) (fl_s (fl_s (fl_s (fl_z trivial)))) | (refine fl_s (fl_s (fl_s (fl_z ?_))); exact isV)
    case q5o4 =>
      intro s w' o ho hN hRd hFd next hnext
      cases ho
      have f12 := isV_eq (of_z (of_s (of_s ((hFd 2 12 (by kernel_rfl) rfl)))))
      have f13 := isV_eq (of_z (of_s (of_s (of_s ((hFd 3 13 (by kernel_rfl) rfl))))))
      have x0 := cell_new hN x0
      rw [if_neg (by simp [Region.wanted, yieldF, f12, f13, x0])]
      refine fl_s (fl_s (fl_s (fl_s (fl_z ?_))))
      exact isV
    case q5o5 =>
      intro s w' o ho hN hRd hFd next hnext
      cases ho
      have h0 := (hRd 0 (by kernel_rfl)).trans h0
      have f12 := isV_eq (of_z (of_s (of_s ((hFd 2 12 (by kernel_rfl) rfl)))))
      simp [go_sem, opsF, opF, upF, Region.wanted, Fr.ev, Fr.put, thenE, inBlockE, Oper.semAt, yieldF, h0, f12]
      first | (refine hnext _ _ (Frm.refl _ _) (fl_s (fl_s (fl_s (fl_s (fl_s (fl_z ?_)))))); exact isV) | exact hnext _ _ (Frm.refl _ _) (fl_s (fl_s (fl_s (fl_s (fl_s (fl_z trivial)))))) | (refine fl_s (fl_s (fl_s (fl_s (fl_s (fl_z ?_))))); exact isV)
    case q5o6 =>
      intro s w' o ho hN hRd hFd next hnext
      cases ho
      have f12 := isV_eq (of_z (of_s (of_s ((hFd 2 12 (by kernel_rfl) rfl)))))
      have f15 := isV_eq (of_z (of_s (of_s (of_s (of_s (of_s ((hFd 5 15 (by kernel_rfl) rfl))))))))
      simp [go_sem, opsF, opF, upF, Region.wanted, Fr.ev, Fr.put, thenE, inBlockE, Oper.semAt, yieldF, f12, f15]
      first | (refine hnext _ _ (Frm.refl _ _) (fl_s (fl_s (fl_s (fl_s (fl_s (fl_s (fl_z ?_))))))); exact isV) | exact hnext _ _ (Frm.refl _ _) (fl_s (fl_s (fl_s (fl_s (fl_s (fl_s (fl_z trivial))))))) | (refine fl_s (fl_s (fl_s (fl_s (fl_s (fl_s (fl_z ?_)))))); exact isV)
    case q5o7 =>
      intro s w' o ho hN hRd hFd next hnext
      cases ho
      have f12 := isV_eq (of_z (of_s (of_s ((hFd 2 12 (by kernel_rfl) rfl)))))
      have f16 := isV_eq (of_z (of_s (of_s (of_s (of_s (of_s (of_s ((hFd 6 16 (by kernel_rfl) rfl)))))))))
      simp [go_sem, opsF, opF, upF, Region.wanted, Fr.ev, Fr.put, thenE, inBlockE, Oper.semAt, yieldF, f12, f16]
      first | (refine hnext _ _ (Frm.refl _ _) (fl_s (fl_s (fl_s (fl_s (fl_s (fl_s (fl_s (fl_z ?_)))))))); exact isV) | exact hnext _ _ (Frm.refl _ _) (fl_s (fl_s (fl_s (fl_s (fl_s (fl_s (fl_s (fl_z trivial)))))))) | (refine fl_s (fl_s (fl_s (fl_s (fl_s (fl_s (fl_s (fl_z ?_))))))); exact isV)
    case q5o8 =>
      intro s w' o ho hN hRd hFd next hnext
      cases ho
      have f12 := isV_eq (of_z (of_s (of_s ((hFd 2 12 (by kernel_rfl) rfl)))))
      have f17 := isV_eq (of_z (of_s (of_s (of_s (of_s (of_s (of_s (of_s ((hFd 7 17 (by kernel_rfl) rfl))))))))))
      have x0 := cell_new hN x0
      simp [go_sem, opsF, opF, upF, Region.wanted, Fr.ev, Fr.put, thenE, inBlockE, Oper.semAt, yieldF, f12, f17, x0]
      first | (refine hnext _ _ (Frm.refl _ _) (fl_s (fl_s (fl_s (fl_s (fl_s (fl_s (fl_s (fl_s (fl_z ?_))))))))); exact isV) | exact hnext _ _ (Frm.refl _ _) (fl_s (fl_s (fl_s (fl_s (fl_s (fl_s (fl_s (fl_s (fl_z trivial))))))))) | (refine fl_s (fl_s (fl_s (fl_s (fl_s (fl_s (fl_s (fl_s (fl_z ?_)))))))); exact isV)
    case q5o9 =>
      intro s w' o ho hN hRd hFd next hnext
      cases ho
      have f12 := isV_eq (of_z (of_s (of_s ((hFd 2 12 (by kernel_rfl) rfl)))))
      have f18 := isV_eq (of_z (of_s (of_s (of_s (of_s (of_s (of_s (of_s (of_s ((hFd 8 18 (by kernel_rfl) rfl)))))))))))
      simp [go_sem, opsF, opF, upF, Region.wanted, Fr.ev, Fr.put, thenE, inBlockE, Oper.semAt, yieldF, f12, f18]
      first | (refine hnext _ _ (Frm.refl _ _) (fl_s (fl_s (fl_s (fl_s (fl_s (fl_s (fl_s (fl_s (fl_s (fl_z ?_)))))))))); exact isV) | exact hnext _ _ (Frm.refl _ _) (fl_s (fl_s (fl_s (fl_s (fl_s (fl_s (fl_s (fl_s (fl_s (fl_z trivial)))))))))) | (refine fl_s (fl_s (fl_s (fl_s (fl_s (fl_s (fl_s (fl_s (fl_s (fl_z ?_))))))))); exact isV)
    case q5o10 =>
      intro s w' o ho hN hRd hFd next hnext
      cases ho
      have f12 := isV_eq (of_z (of_s (of_s ((hFd 2 12 (by kernel_rfl) rfl)))))
      have f14 := isV_eq (of_z (of_s (of_s (of_s (of_s ((hFd 4 14 (by kernel_rfl) rfl)))))))
      have f19 := isV_eq (of_z (of_s (of_s (of_s (of_s (of_s (of_s (of_s (of_s (of_s ((hFd 9 19 (by kernel_rfl) rfl))))))))))))
      simp [go_sem, opsF, opF, upF, Region.wanted, Fr.ev, Fr.put, thenE, inBlockE, Oper.semAt, yieldF, f12, f14, f19]
      first | (refine hnext _ _ (Frm.refl _ _) (fl_s (fl_s (fl_s (fl_s (fl_s (fl_s (fl_s (fl_s (fl_s (fl_s (fl_z ?_))))))))))); exact isV) | exact hnext _ _ (Frm.refl _ _) (fl_s (fl_s (fl_s (fl_s (fl_s (fl_s (fl_s (fl_s (fl_s (fl_s (fl_z trivial))))))))))) | (refine fl_s (fl_s (fl_s (fl_s (fl_s (fl_s (fl_s (fl_s (fl_s (fl_s (fl_z ?_)))))))))); exact isV)
    case q5o11 =>
      intro s w' o ho hN hRd hFd next hnext
      cases ho
      have f12 := isV_eq (of_z (of_s (of_s ((hFd 2 12 (by kernel_rfl) rfl)))))
      have f20 := isV_eq (of_z (of_s (of_s (of_s (of_s (of_s (of_s (of_s (of_s (of_s (of_s ((hFd 10 20 (by kernel_rfl) rfl)))))))))))))
      simp [go_sem, opsF, opF, upF, Region.wanted, Fr.ev, Fr.put, thenE, inBlockE, Oper.semAt, yieldF, f12, f20]
      first | (refine hnext _ _ (Frm.refl _ _) (fl_s (fl_s (fl_s (fl_s (fl_s (fl_s (fl_s (fl_s (fl_s (fl_s (fl_s (fl_z ?_)))))))))))); exact isV) | exact hnext _ _ (Frm.refl _ _) (fl_s (fl_s (fl_s (fl_s (fl_s (fl_s (fl_s (fl_s (fl_s (fl_s (fl_s (fl_z trivial)))))))))))) | (refine fl_s (fl_s (fl_s (fl_s (fl_s (fl_s (fl_s (fl_s (fl_s (fl_s (fl_s (fl_z ?_))))))))))); exact isV)
    case q5o12 =>
      intro s w' o ho hN hRd hFd next hnext
      cases ho
      have f21 := isV_eq (of_z (of_s (of_s (of_s (of_s (of_s (of_s (of_s (of_s (of_s (of_s (of_s ((hFd 11 21 (by kernel_rfl) rfl))))))))))))))
      simp [go_sem, opsF, opF, upF, Region.wanted, Fr.ev, Fr.put, thenE, inBlockE, Oper.semAt, yieldF, f21]
      first | (refine hnext _ _ (Frm.refl _ _) (fl_s (fl_s (fl_s (fl_s (fl_s (fl_s (fl_s (fl_s (fl_s (fl_s (fl_s (fl_s (fl_z ?_))))))))))))); exact isV) | exact hnext _ _ (Frm.refl _ _) (fl_s (fl_s (fl_s (fl_s (fl_s (fl_s (fl_s (fl_s (fl_s (fl_s (fl_s (fl_s (fl_z trivial))))))))))))) | (refine fl_s (fl_s (fl_s (fl_s (fl_s (fl_s (fl_s (fl_s (fl_s (fl_s (fl_s (fl_s (fl_z ?_)))))))))))); exact isV)
    intro s wD hN hds' hRd hFd
    have hds := hds'.trans hds
    clear hds'
    have h0 := (hRd 0 (by kernel_rfl)).trans h0
    have h6 := (hRd 6 (by kernel_rfl)).trans h6
    have h9 := isV_eq (of_z (of_s (of_s (of_s (of_s (of_s (of_s (of_s (of_s (of_s (of_s (of_s (of_s ((hFd 12 9 (by decide) rfl)))))))))))))))
    have x0 := cell_new hN x0
    clear hRd hFd
    simp only [List.drop_succ_cons, List.drop_zero, opsF, thenE, inBlockE]
    refine on_kf hK4 [(0, _), (9, _)] (fa_cons h0 (fa_cons (by simp [h0, h6, h9] <;> rfl) fa_nil)) hds ?_
    clear hK4 h0 h6 h9 hds; intro s hs hds
    obtain ⟨h0, h9⟩ := facts2 hs; clear hs
    refine at_true 9 rfl h9 ?_
    refine at_seq rfl fun K6 hK6 => ?_
    (conv => arg 4; whnf)
    refine fw_region_lit rfl ?_
    simp [go_sem, opsF, opF, upF, Region.wanted, Fr.ev, Fr.put, thenE, inBlockE, Oper.semAt, yieldF, h0, h9]
    refine on_kf hK6 [(2, _), (3, _)] (fa_cons (by simp [h0, h9] <;> rfl) (fa_cons (by simp [h0, h9] <;> rfl) fa_nil)) hds ?_
    clear hK6 h0 h9 hds; intro s hs hds
    obtain ⟨h2, h3⟩ := facts2 hs; clear hs
    refine at_ret rfl ?_
    try simp only [inBlockE, thenE]
    refine ret_two rfl hds ?_
    rw [if_pos (.inl hl), h2, h3]
    exact ⟨rfl, hN⟩
  · have ht := hw.top hl
    by_cases hb : topOf l = base + 1
    · have hb' : (topOf l == base + 1) = true := by simp [hb]
      refine at_seq rfl fun K7 hK7 => ?_
      (conv => arg 4; whnf)
      refine' fw_region_facts 13 (FL [(IsV _), (IsV _), (IsV _), (IsV _), (IsV _), (IsV _), (IsV _), (IsV _), (IsV _), (IsV _), (IsV _), (IsV _), (IsV _)]) mixed (by kernel_rfl) (by kernel_rfl) (by kernel_rfl) (by kernel_rfl) (fl_st _ ⟨stb_isV _, ⟨stb_isV _, ⟨stb_isV _, ⟨stb_isV _, ⟨stb_isV _, ⟨stb_isV _, ⟨stb_isV _, ⟨stb_isV _, ⟨stb_isV _, ⟨stb_isV _, ⟨stb_isV _, ⟨stb_isV _, ⟨stb_isV _, trivial⟩⟩⟩⟩⟩⟩⟩⟩⟩⟩⟩⟩⟩) (all_lt_succ (all_lt_succ (all_lt_succ (all_lt_succ (all_lt_succ (all_lt_succ (all_lt_succ (all_lt_succ (all_lt_succ (all_lt_succ (all_lt_succ (all_lt_succ (all_lt_succ all_lt_zero ?q8o0) ?q8o1) ?q8o2) ?q8o3) ?q8o4) ?q8o5) ?q8o6) ?q8o7) ?q8o8) ?q8o9) ?q8o10) ?q8o11) ?q8o12) ?q8t
      case q8o0 =>
        intro s w' o ho hN hRd hFd next hnext
        cases ho
        have h0 := (hRd 0 (by kernel_rfl)).trans h0
        simp [go_sem, opsF, opF, upF, Region.wanted, Fr.ev, Fr.put, thenE, inBlockE, Oper.semAt, yieldF, h0, d1, hb']
        first | (refine hnext _ _ (Frm.refl _ _) (fl_z ?_); exact isV) | exact hnext _ _ (Frm.refl _ _) (fl_z trivial) | (refine fl_z ?_; exact isV)
      case q8o1 =>
        intro s w' o ho hN hRd hFd next hnext
        cases ho
        have f10 := isV_eq (of_z ((hFd 0 10 (by kernel_rfl) rfl)))
        have x0 := cell_new hN x0
        rw [if_pos (by simp [Region.wanted, yieldF, f10, x0])]
        refine opF_call rfl call5 (by simp [Fr.ev, f10, x0] <;> rfl) ?_
        refine (done_any sb base root target _ l _ (h.new hN) hr).on ?_
        rintro _ w2 ⟨rfl, rfl⟩
        rw [decide_eq_false hl]
        refine hnext _ _ (Frm.refl _ _) (fl_s (fl_z ?_))
        exact isV
      case q8o2 =>
        intro s w' o ho hN hRd hFd next hnext
        cases ho
        have f11 := isV_eq (of_z (of_s ((hFd 1 11 (by kernel_rfl) rfl))))
        simp [go_sem, opsF, opF, upF, Region.wanted, Fr.ev, Fr.put, thenE, inBlockE, Oper.semAt, yieldF, f11, d1, hb']
        first | (refine hnext _ _ (Frm.refl _ _) (fl_s (fl_s (fl_z ?_))); exact isV) | exact hnext _ _ (Frm.refl _ _) (fl_s (fl_s (fl_z trivial))) | (refine fl_s (fl_s (fl_z ?_)); exact isV)
      case q8o3 =>
        intro s w' o ho hN hRd hFd next hnext
        cases ho
        have h0 := (hRd 0 (by kernel_rfl)).trans h0
        have f12 := isV_eq (of_z (of_s (of_s ((hFd 2 12 (by kernel_rfl) rfl)))))
        simp [go_sem, opsF, opF, upF, Region.wanted, Fr.ev, Fr.put, thenE, inBlockE, Oper.semAt, yieldF, h0, f12, d1, hb']
        first | (refine hnext _ _ (Frm.refl _ _) (fl_s (fl_s (fl_s (fl_z ?_)))); exact isV) | exact hnext _ _ (Frm.refl _ _) (fl_s (fl_s (fl_s (fl_z trivial)))) | (refine fl_s (fl_s (fl_s (fl_z ?_))); exact isV)
      case q8o4 =>
        intro s w' o ho hN hRd hFd next hnext
        cases ho
        have f12 := isV_eq (of_z (of_s (of_s ((hFd 2 12 (by kernel_rfl) rfl)))))
        have f13 := isV_eq (of_z (of_s (of_s (of_s ((hFd 3 13 (by kernel_rfl) rfl))))))
        have x0 := cell_new hN x0
        rw [if_pos (by simp [Region.wanted, yieldF, f12, f13, x0])]
        refine opF_call rfl call7 (by simp [Fr.ev, f12, f13, x0] <;> rfl) ?_
        refine (stop_any sb base root target _ l _ (h.new hN) hr).on ?_
        rintro _ w2 ⟨rfl, hw2⟩
        refine hnext _ _ hw2 (fl_s (fl_s (fl_s (fl_s (fl_z ?_)))))
        exact isV
      case q8o5 =>
        intro s w' o ho hN hRd hFd next hnext
        cases ho
        have h0 := (hRd 0 (by kernel_rfl)).trans h0
        have f12 := isV_eq (of_z (of_s (of_s ((hFd 2 12 (by kernel_rfl) rfl)))))
        simp [go_sem, opsF, opF, upF, Region.wanted, Fr.ev, Fr.put, thenE, inBlockE, Oper.semAt, yieldF, h0, f12, d1, hb']
        first | (refine hnext _ _ (Frm.refl _ _) (fl_s (fl_s (fl_s (fl_s (fl_s (fl_z ?_)))))); exact isV) | exact hnext _ _ (Frm.refl _ _) (fl_s (fl_s (fl_s (fl_s (fl_s (fl_z trivial)))))) | (refine fl_s (fl_s (fl_s (fl_s (fl_s (fl_z ?_))))); exact isV)
      case q8o6 =>
        intro s w' o ho hN hRd hFd next hnext
        cases ho
        have f12 := isV_eq (of_z (of_s (of_s ((hFd 2 12 (by kernel_rfl) rfl)))))
        have f15 := isV_eq (of_z (of_s (of_s (of_s (of_s (of_s ((hFd 5 15 (by kernel_rfl) rfl))))))))
        simp [go_sem, opsF, opF, upF, Region.wanted, Fr.ev, Fr.put, thenE, inBlockE, Oper.semAt, yieldF, f12, f15, d1, hb']
        first | (refine hnext _ _ (Frm.refl _ _) (fl_s (fl_s (fl_s (fl_s (fl_s (fl_s (fl_z ?_))))))); exact isV) | exact hnext _ _ (Frm.refl _ _) (fl_s (fl_s (fl_s (fl_s (fl_s (fl_s (fl_z trivial))))))) | (refine fl_s (fl_s (fl_s (fl_s (fl_s (fl_s (fl_z ?_)))))); exact isV)
      case q8o7 =>
        intro s w' o ho hN hRd hFd next hnext
        cases ho
        have f12 := isV_eq (of_z (of_s (of_s ((hFd 2 12 (by kernel_rfl) rfl)))))
        have f16 := isV_eq (of_z (of_s (of_s (of_s (of_s (of_s (of_s ((hFd 6 16 (by kernel_rfl) rfl)))))))))
        simp [go_sem, opsF, opF, upF, Region.wanted, Fr.ev, Fr.put, thenE, inBlockE, Oper.semAt, yieldF, f12, f16, d1, hb']
        first | (refine hnext _ _ (Frm.refl _ _) (fl_s (fl_s (fl_s (fl_s (fl_s (fl_s (fl_s (fl_z ?_)))))))); exact isV) | exact hnext _ _ (Frm.refl _ _) (fl_s (fl_s (fl_s (fl_s (fl_s (fl_s (fl_s (fl_z trivial)))))))) | (refine fl_s (fl_s (fl_s (fl_s (fl_s (fl_s (fl_s (fl_z ?_))))))); exact isV)
      case q8o8 =>
        intro s w' o ho hN hRd hFd next hnext
        cases ho
        have f12 := isV_eq (of_z (of_s (of_s ((hFd 2 12 (by kernel_rfl) rfl)))))
        have f17 := isV_eq (of_z (of_s (of_s (of_s (of_s (of_s (of_s (of_s ((hFd 7 17 (by kernel_rfl) rfl))))))))))
        have x0 := cell_new hN x0
        simp [go_sem, opsF, opF, upF, Region.wanted, Fr.ev, Fr.put, thenE, inBlockE, Oper.semAt, yieldF, f12, f17, x0, d1, hb']
        first | (refine hnext _ _ (Frm.refl _ _) (fl_s (fl_s (fl_s (fl_s (fl_s (fl_s (fl_s (fl_s (fl_z ?_))))))))); exact isV) | exact hnext _ _ (Frm.refl _ _) (fl_s (fl_s (fl_s (fl_s (fl_s (fl_s (fl_s (fl_s (fl_z trivial))))))))) | (refine fl_s (fl_s (fl_s (fl_s (fl_s (fl_s (fl_s (fl_s (fl_z ?_)))))))); exact isV)
      case q8o9 =>
        intro s w' o ho hN hRd hFd next hnext
        cases ho
        have f12 := isV_eq (of_z (of_s (of_s ((hFd 2 12 (by kernel_rfl) rfl)))))
        have f18 := isV_eq (of_z (of_s (of_s (of_s (of_s (of_s (of_s (of_s (of_s ((hFd 8 18 (by kernel_rfl) rfl)))))))))))
        simp [go_sem, opsF, opF, upF, Region.wanted, Fr.ev, Fr.put, thenE, inBlockE, Oper.semAt, yieldF, f12, f18, d1, hb']
        first | (refine hnext _ _ (Frm.refl _ _) (fl_s (fl_s (fl_s (fl_s (fl_s (fl_s (fl_s (fl_s (fl_s (fl_z ?_)))))))))); exact isV) | exact hnext _ _ (Frm.refl _ _) (fl_s (fl_s (fl_s (fl_s (fl_s (fl_s (fl_s (fl_s (fl_s (fl_z trivial)))))))))) | (refine fl_s (fl_s (fl_s (fl_s (fl_s (fl_s (fl_s (fl_s (fl_s (fl_z ?_))))))))); exact isV)
      case q8o10 =>
        intro s w' o ho hN hRd hFd next hnext
        cases ho
        have f12 := isV_eq (of_z (of_s (of_s ((hFd 2 12 (by kernel_rfl) rfl)))))
        have f14 := isV_eq (of_z (of_s (of_s (of_s (of_s ((hFd 4 14 (by kernel_rfl) rfl)))))))
        have f19 := isV_eq (of_z (of_s (of_s (of_s (of_s (of_s (of_s (of_s (of_s (of_s ((hFd 9 19 (by kernel_rfl) rfl))))))))))))
        simp [go_sem, opsF, opF, upF, Region.wanted, Fr.ev, Fr.put, thenE, inBlockE, Oper.semAt, yieldF, f12, f14, f19, d1, hb']
        first | (refine hnext _ _ (Frm.refl _ _) (fl_s (fl_s (fl_s (fl_s (fl_s (fl_s (fl_s (fl_s (fl_s (fl_s (fl_z ?_))))))))))); exact isV) | exact hnext _ _ (Frm.refl _ _) (fl_s (fl_s (fl_s (fl_s (fl_s (fl_s (fl_s (fl_s (fl_s (fl_s (fl_z trivial))))))))))) | (refine fl_s (fl_s (fl_s (fl_s (fl_s (fl_s (fl_s (fl_s (fl_s (fl_s (fl_z ?_)))))))))); exact isV)
      case q8o11 =>
        intro s w' o ho hN hRd hFd next hnext
        cases ho
        have f12 := isV_eq (of_z (of_s (of_s ((hFd 2 12 (by kernel_rfl) rfl)))))
        have f20 := isV_eq (of_z (of_s (of_s (of_s (of_s (of_s (of_s (of_s (of_s (of_s (of_s ((hFd 10 20 (by kernel_rfl) rfl)))))))))))))
        simp [go_sem, opsF, opF, upF, Region.wanted, Fr.ev, Fr.put, thenE, inBlockE, Oper.semAt, yieldF, f12, f20, d1, hb']
        first | (refine hnext _ _ (Frm.refl _ _) (fl_s (fl_s (fl_s (fl_s (fl_s (fl_s (fl_s (fl_s (fl_s (fl_s (fl_s (fl_z ?_)))))))))))); exact isV) | exact hnext _ _ (Frm.refl _ _) (fl_s (fl_s (fl_s (fl_s (fl_s (fl_s (fl_s (fl_s (fl_s (fl_s (fl_s (fl_z trivial)))))))))))) | (refine fl_s (fl_s (fl_s (fl_s (fl_s (fl_s (fl_s (fl_s (fl_s (fl_s (fl_s (fl_z ?_))))))))))); exact isV)
      case q8o12 =>
        intro s w' o ho hN hRd hFd next hnext
        cases ho
        have f21 := isV_eq (of_z (of_s (of_s (of_s (of_s (of_s (of_s (of_s (of_s (of_s (of_s (of_s ((hFd 11 21 (by kernel_rfl) rfl))))))))))))))
        simp [go_sem, opsF, opF, upF, Region.wanted, Fr.ev, Fr.put, thenE, inBlockE, Oper.semAt, yieldF, f21, d1, hb']
        first | (refine hnext _ _ (Frm.refl _ _) (fl_s (fl_s (fl_s (fl_s (fl_s (fl_s (fl_s (fl_s (fl_s (fl_s (fl_s (fl_s (fl_z ?_))))))))))))); exact isV) | exact hnext _ _ (Frm.refl _ _) (fl_s (fl_s (fl_s (fl_s (fl_s (fl_s (fl_s (fl_s (fl_s (fl_s (fl_s (fl_s (fl_z trivial))))))))))))) | (refine fl_s (fl_s (fl_s (fl_s (fl_s (fl_s (fl_s (fl_s (fl_s (fl_s (fl_s (fl_s (fl_z ?_)))))))))))); exact isV)
      intro s wD hN hds' hRd hFd
      have hds := hds'.trans hds
      clear hds'
      have h0 := (hRd 0 (by kernel_rfl)).trans h0
      have h6 := (hRd 6 (by kernel_rfl)).trans h6
      have h9 := isV_eq (of_z (of_s (of_s (of_s (of_s (of_s (of_s (of_s (of_s (of_s (of_s (of_s (of_s ((hFd 12 9 (by decide) rfl)))))))))))))))
      have x0 := cell_new hN x0
      clear hRd hFd
      simp only [List.drop_succ_cons, List.drop_zero, opsF, thenE, inBlockE]
      refine on_kf hK7 [(0, _), (9, _)] (fa_cons h0 (fa_cons (by simp [h0, h6, h9] <;> rfl) fa_nil)) hds ?_
      clear hK7 h0 h6 h9 hds; intro s hs hds
      obtain ⟨h0, h9⟩ := facts2 hs; clear hs
      refine at_true 9 rfl h9 ?_
      refine at_seq rfl fun K9 hK9 => ?_
      (conv => arg 4; whnf)
      refine fw_region_lit rfl ?_
      simp [go_sem, opsF, opF, upF, Region.wanted, Fr.ev, Fr.put, thenE, inBlockE, Oper.semAt, yieldF, h0, h9]
      refine on_kf hK9 [(2, _), (3, _)] (fa_cons (by simp [h0, h9] <;> rfl) (fa_cons (by simp [h0, h9] <;> rfl) fa_nil)) hds ?_
      clear hK9 h0 h9 hds; intro s hs hds
      obtain ⟨h2, h3⟩ := facts2 hs; clear hs
      refine at_ret rfl ?_
      try simp only [inBlockE, thenE]
      refine ret_two rfl hds ?_
      rw [if_pos (.inr hb), h2, h3]
      exact ⟨rfl, hN⟩
    · have hb' : (topOf l == base + 1) = false := by simp [hb]
      refine at_seq rfl fun K10 hK10 => ?_
      (conv => arg 4; whnf)
      refine' fw_region_facts 13 (FL [(IsV _), (IsV _), (IsV _), (IsV _), (IsV _), (IsV _), (IsV _), (IsV _), (IsV _), (IsV _), (IsV _), (IsV _), (IsV _)]) mixed (by kernel_rfl) (by kernel_rfl) (by kernel_rfl) (by kernel_rfl) (fl_st _ ⟨stb_isV _, ⟨stb_isV _, ⟨stb_isV _, ⟨stb_isV _, ⟨stb_isV _, ⟨stb_isV _, ⟨stb_isV _, ⟨stb_isV _, ⟨stb_isV _, ⟨stb_isV _, ⟨stb_isV _, ⟨stb_isV _, ⟨stb_isV _, trivial⟩⟩⟩⟩⟩⟩⟩⟩⟩⟩⟩⟩⟩) (all_lt_succ (all_lt_succ (all_lt_succ (all_lt_succ (all_lt_succ (all_lt_succ (all_lt_succ (all_lt_succ (all_lt_succ (all_lt_succ (all_lt_succ (all_lt_succ (all_lt_succ all_lt_zero ?q11o0) ?q11o1) ?q11o2) ?q11o3) ?q11o4) ?q11o5) ?q11o6) ?q11o7) ?q11o8) ?q11o9) ?q11o10) ?q11o11) ?q11o12) ?q11t
      case q11o0 =>
        intro s w' o ho hN hRd hFd next hnext
        cases ho
        have h0 := (hRd 0 (by kernel_rfl)).trans h0
        simp [go_sem, opsF, opF, upF, Region.wanted, Fr.ev, Fr.put, thenE, inBlockE, Oper.semAt, yieldF, h0, d1, hb']
        first | (refine hnext _ _ (Frm.refl _ _) (fl_z ?_); exact isV) | exact hnext _ _ (Frm.refl _ _) (fl_z trivial) | (refine fl_z ?_; exact isV)
      case q11o1 =>
        intro s w' o ho hN hRd hFd next hnext
        cases ho
        have f10 := isV_eq (of_z ((hFd 0 10 (by kernel_rfl) rfl)))
        have x0 := cell_new hN x0
        rw [if_pos (by simp [Region.wanted, yieldF, f10, x0])]
        refine opF_call rfl call5 (by simp [Fr.ev, f10, x0] <;> rfl) ?_
        refine (done_any sb base root target _ l _ (h.new hN) hr).on ?_
        rintro _ w2 ⟨rfl, rfl⟩
        rw [decide_eq_false hl]
        refine hnext _ _ (Frm.refl _ _) (fl_s (fl_z ?_))
        exact isV
      case q11o2 =>
        intro s w' o ho hN hRd hFd next hnext
        cases ho
        have f11 := isV_eq (of_z (of_s ((hFd 1 11 (by kernel_rfl) rfl))))
        simp [go_sem, opsF, opF, upF, Region.wanted, Fr.ev, Fr.put, thenE, inBlockE, Oper.semAt, yieldF, f11, d1, hb']
        first | (refine hnext _ _ (Frm.refl _ _) (fl_s (fl_s (fl_z ?_))); exact isV) | exact hnext _ _ (Frm.refl _ _) (fl_s (fl_s (fl_z trivial))) | (refine fl_s (fl_s (fl_z ?_)); exact isV)
      case q11o3 =>
        intro s w' o ho hN hRd hFd next hnext
        cases ho
        have h0 := (hRd 0 (by kernel_rfl)).trans h0
        have f12 := isV_eq (of_z (of_s (of_s ((hFd 2 12 (by kernel_rfl) rfl)))))
        simp [go_sem, opsF, opF, upF, Region.wanted, Fr.ev, Fr.put, thenE, inBlockE, Oper.semAt, yieldF, h0, f12, d1, hb']
        first | (refine hnext _ _ (Frm.refl _ _) (fl_s (fl_s (fl_s (fl_z ?_)))); exact isV) | exact hnext _ _ (Frm.refl _ _) (fl_s (fl_s (fl_s (fl_z trivial)))) | (refine fl_s (fl_s (fl_s (fl_z ?_))); exact isV)
      case q11o4 =>
        intro s w' o ho hN hRd hFd next hnext
        cases ho
        have f12 := isV_eq (of_z (of_s (of_s ((hFd 2 12 (by kernel_rfl) rfl)))))
        have f13 := isV_eq (of_z (of_s (of_s (of_s ((hFd 3 13 (by kernel_rfl) rfl))))))
        have x0 := cell_new hN x0
        rw [if_pos (by simp [Region.wanted, yieldF, f12, f13, x0])]
        refine opF_call rfl call7 (by simp [Fr.ev, f12, f13, x0] <;> rfl) ?_
        refine (stop_any sb base root target _ l _ (h.new hN) hr).on ?_
        rintro _ w2 ⟨rfl, hw2⟩
        refine hnext _ _ hw2 (fl_s (fl_s (fl_s (fl_s (fl_z ?_)))))
        exact isV
      case q11o5 =>
        intro s w' o ho hN hRd hFd next hnext
        cases ho
        have h0 := (hRd 0 (by kernel_rfl)).trans h0
        have f12 := isV_eq (of_z (of_s (of_s ((hFd 2 12 (by kernel_rfl) rfl)))))
        simp [go_sem, opsF, opF, upF, Region.wanted, Fr.ev, Fr.put, thenE, inBlockE, Oper.semAt, yieldF, h0, f12, d1, hb']
        first | (refine hnext _ _ (Frm.refl _ _) (fl_s (fl_s (fl_s (fl_s (fl_s (fl_z ?_)))))); exact isV) | exact hnext _ _ (Frm.refl _ _) (fl_s (fl_s (fl_s (fl_s (fl_s (fl_z trivial)))))) | (refine fl_s (fl_s (fl_s (fl_s (fl_s (fl_z ?_))))); exact isV)
      case q11o6 =>
        intro s w' o ho hN hRd hFd next hnext
        cases ho
        have f12 := isV_eq (of_z (of_s (of_s ((hFd 2 12 (by kernel_rfl) rfl)))))
        have f15 := isV_eq (of_z (of_s (of_s (of_s (of_s (of_s ((hFd 5 15 (by kernel_rfl) rfl))))))))
        simp [go_sem, opsF, opF, upF, Region.wanted, Fr.ev, Fr.put, thenE, inBlockE, Oper.semAt, yieldF, f12, f15, d1, hb']
        first | (refine hnext _ _ (Frm.refl _ _) (fl_s (fl_s (fl_s (fl_s (fl_s (fl_s (fl_z ?_))))))); exact isV) | exact hnext _ _ (Frm.refl _ _) (fl_s (fl_s (fl_s (fl_s (fl_s (fl_s (fl_z trivial))))))) | (refine fl_s (fl_s (fl_s (fl_s (fl_s (fl_s (fl_z ?_)))))); exact isV)
      case q11o7 =>
        intro s w' o ho hN hRd hFd next hnext
        cases ho
        have f12 := isV_eq (of_z (of_s (of_s ((hFd 2 12 (by kernel_rfl) rfl)))))
        have f16 := isV_eq (of_z (of_s (of_s (of_s (of_s (of_s (of_s ((hFd 6 16 (by kernel_rfl) rfl)))))))))
        simp [go_sem, opsF, opF, upF, Region.wanted, Fr.ev, Fr.put, thenE, inBlockE, Oper.semAt, yieldF, f12, f16, d1, hb']
        first | (refine hnext _ _ (Frm.refl _ _) (fl_s (fl_s (fl_s (fl_s (fl_s (fl_s (fl_s (fl_z ?_)))))))); exact isV) | exact hnext _ _ (Frm.refl _ _) (fl_s (fl_s (fl_s (fl_s (fl_s (fl_s (fl_s (fl_z trivial)))))))) | (refine fl_s (fl_s (fl_s (fl_s (fl_s (fl_s (fl_s (fl_z ?_))))))); exact isV)
      case q11o8 =>
        intro s w' o ho hN hRd hFd next hnext
        cases ho
        have f12 := isV_eq (of_z (of_s (of_s ((hFd 2 12 (by kernel_rfl) rfl)))))
        have f17 := isV_eq (of_z (of_s (of_s (of_s (of_s (of_s (of_s (of_s ((hFd 7 17 (by kernel_rfl) rfl))))))))))
        have x0 := cell_new hN x0
        simp [go_sem, opsF, opF, upF, Region.wanted, Fr.ev, Fr.put, thenE, inBlockE, Oper.semAt, yieldF, f12, f17, x0, d1, hb']
        first | (refine hnext _ _ (Frm.refl _ _) (fl_s (fl_s (fl_s (fl_s (fl_s (fl_s (fl_s (fl_s (fl_z ?_))))))))); exact isV) | exact hnext _ _ (Frm.refl _ _) (fl_s (fl_s (fl_s (fl_s (fl_s (fl_s (fl_s (fl_s (fl_z trivial))))))))) | (refine fl_s (fl_s (fl_s (fl_s (fl_s (fl_s (fl_s (fl_s (fl_z ?_)))))))); exact isV)
      case q11o9 =>
        intro s w' o ho hN hRd hFd next hnext
        cases ho
        have f12 := isV_eq (of_z (of_s (of_s ((hFd 2 12 (by kernel_rfl) rfl)))))
        have f18 := isV_eq (of_z (of_s (of_s (of_s (of_s (of_s (of_s (of_s (of_s ((hFd 8 18 (by kernel_rfl) rfl)))))))))))
        simp [go_sem, opsF, opF, upF, Region.wanted, Fr.ev, Fr.put, thenE, inBlockE, Oper.semAt, yieldF, f12, f18, d1, hb']
        first | (refine hnext _ _ (Frm.refl _ _) (fl_s (fl_s (fl_s (fl_s (fl_s (fl_s (fl_s (fl_s (fl_s (fl_z ?_)))))))))); exact isV) | exact hnext _ _ (Frm.refl _ _) (fl_s (fl_s (fl_s (fl_s (fl_s (fl_s (fl_s (fl_s (fl_s (fl_z trivial)))))))))) | (refine fl_s (fl_s (fl_s (fl_s (fl_s (fl_s (fl_s (fl_s (fl_s (fl_z ?_))))))))); exact isV)
      case q11o10 =>
        intro s w' o ho hN hRd hFd next hnext
        cases ho
        have f12 := isV_eq (of_z (of_s (of_s ((hFd 2 12 (by kernel_rfl) rfl)))))
        have f14 := isV_eq (of_z (of_s (of_s (of_s (of_s ((hFd 4 14 (by kernel_rfl) rfl)))))))
        have f19 := isV_eq (of_z (of_s (of_s (of_s (of_s (of_s (of_s (of_s (of_s (of_s ((hFd 9 19 (by kernel_rfl) rfl))))))))))))
        simp [go_sem, opsF, opF, upF, Region.wanted, Fr.ev, Fr.put, thenE, inBlockE, Oper.semAt, yieldF, f12, f14, f19, d1, hb']
        first | (refine hnext _ _ (Frm.refl _ _) (fl_s (fl_s (fl_s (fl_s (fl_s (fl_s (fl_s (fl_s (fl_s (fl_s (fl_z ?_))))))))))); exact isV) | exact hnext _ _ (Frm.refl _ _) (fl_s (fl_s (fl_s (fl_s (fl_s (fl_s (fl_s (fl_s (fl_s (fl_s (fl_z trivial))))))))))) | (refine fl_s (fl_s (fl_s (fl_s (fl_s (fl_s (fl_s (fl_s (fl_s (fl_s (fl_z ?_)))))))))); exact isV)
      case q11o11 =>
        intro s w' o ho hN hRd hFd next hnext
        cases ho
        have f12 := isV_eq (of_z (of_s (of_s ((hFd 2 12 (by kernel_rfl) rfl)))))
        have f20 := isV_eq (of_z (of_s (of_s (of_s (of_s (of_s (of_s (of_s (of_s (of_s (of_s ((hFd 10 20 (by kernel_rfl) rfl)))))))))))))
        simp [go_sem, opsF, opF, upF, Region.wanted, Fr.ev, Fr.put, thenE, inBlockE, Oper.semAt, yieldF, f12, f20, d1, hb']
        first | (refine hnext _ _ (Frm.refl _ _) (fl_s (fl_s (fl_s (fl_s (fl_s (fl_s (fl_s (fl_s (fl_s (fl_s (fl_s (fl_z ?_)))))))))))); exact isV) | exact hnext _ _ (Frm.refl _ _) (fl_s (fl_s (fl_s (fl_s (fl_s (fl_s (fl_s (fl_s (fl_s (fl_s (fl_s (fl_z trivial)))))))))))) | (refine fl_s (fl_s (fl_s (fl_s (fl_s (fl_s (fl_s (fl_s (fl_s (fl_s (fl_s (fl_z ?_))))))))))); exact isV)
      case q11o12 =>
        intro s w' o ho hN hRd hFd next hnext
        cases ho
        have f21 := isV_eq (of_z (of_s (of_s (of_s (of_s (of_s (of_s (of_s (of_s (of_s (of_s (of_s ((hFd 11 21 (by kernel_rfl) rfl))))))))))))))
        simp [go_sem, opsF, opF, upF, Region.wanted, Fr.ev, Fr.put, thenE, inBlockE, Oper.semAt, yieldF, f21, d1, hb']
        first | (refine hnext _ _ (Frm.refl _ _) (fl_s (fl_s (fl_s (fl_s (fl_s (fl_s (fl_s (fl_s (fl_s (fl_s (fl_s (fl_s (fl_z ?_))))))))))))); exact isV) | exact hnext _ _ (Frm.refl _ _) (fl_s (fl_s (fl_s (fl_s (fl_s (fl_s (fl_s (fl_s (fl_s (fl_s (fl_s (fl_s (fl_z trivial))))))))))))) | (refine fl_s (fl_s (fl_s (fl_s (fl_s (fl_s (fl_s (fl_s (fl_s (fl_s (fl_s (fl_s (fl_z ?_)))))))))))); exact isV)
      intro s wD hN hds' hRd hFd
      have hds := hds'.trans hds
      clear hds'
      have h0 := (hRd 0 (by kernel_rfl)).trans h0
      have h6 := (hRd 6 (by kernel_rfl)).trans h6
      have h9 := isV_eq (of_z (of_s (of_s (of_s (of_s (of_s (of_s (of_s (of_s (of_s (of_s (of_s (of_s ((hFd 12 9 (by decide) rfl)))))))))))))))
      have x0 := cell_new hN x0
      clear hRd hFd
      simp only [List.drop_succ_cons, List.drop_zero, opsF, thenE, inBlockE]
      refine on_kf hK10 [(0, _), (9, _)] (fa_cons h0 (fa_cons (by simp [h0, h6, h9, hb'] <;> rfl) fa_nil)) hds ?_
      clear hK10 h0 h6 h9 hds; intro s hs hds
      obtain ⟨h0, h9⟩ := facts2 hs; clear hs
      refine at_false 9 rfl h9 ?_
      refine at_skip rfl ?_
      try simp only [inBlockE, thenE]
      refine hK2 _ _ ?_
      clear hK2
      refine at_seq rfl fun K12 hK12 => ?_
      have hS1 := h.new hN
      have hNA := hN
      (conv => arg 4; whnf)
      refine' fw_region_facts 12 (FL [(IsV _), (IsV _), (IsV _), (IsV _), (IsV _), (IsV _), (IsV _), (IsV _), (IsV _), (IsV _), (IsV _), (IsV _)]) mixed (by kernel_rfl) (by kernel_rfl) (by kernel_rfl) (by kernel_rfl) (fl_st _ ⟨stb_isV _, ⟨stb_isV _, ⟨stb_isV _, ⟨stb_isV _, ⟨stb_isV _, ⟨stb_isV _, ⟨stb_isV _, ⟨stb_isV _, ⟨stb_isV _, ⟨stb_isV _, ⟨stb_isV _, ⟨stb_isV _, trivial⟩⟩⟩⟩⟩⟩⟩⟩⟩⟩⟩⟩) (all_lt_succ (all_lt_succ (all_lt_succ (all_lt_succ (all_lt_succ (all_lt_succ (all_lt_succ (all_lt_succ (all_lt_succ (all_lt_succ (all_lt_succ (all_lt_succ all_lt_zero ?q13o0) ?q13o1) ?q13o2) ?q13o3) ?q13o4) ?q13o5) ?q13o6) ?q13o7) ?q13o8) ?q13o9) ?q13o10) ?q13o11) ?q13t
      case q13o0 =>
        intro s w' o ho hN hRd hFd next hnext
        cases ho
        have h0 := (hRd 0 (by kernel_rfl)).trans h0
        simp [go_sem, opsF, opF, upF, Region.wanted, Fr.ev, Fr.put, thenE, inBlockE, Oper.semAt, yieldF, h0]
        first | (refine hnext _ _ (Frm.refl _ _) (fl_z ?_); exact isV) | exact hnext _ _ (Frm.refl _ _) (fl_z trivial) | (refine fl_z ?_; exact isV)
      case q13o1 =>
        intro s w' o ho hN hRd hFd next hnext
        cases ho
        have f23 := isV_eq (of_z ((hFd 0 23 (by kernel_rfl) rfl)))
        simp [go_sem, opsF, opF, upF, Region.wanted, Fr.ev, Fr.put, thenE, inBlockE, Oper.semAt, yieldF, f23]
        first | (refine hnext _ _ (Frm.refl _ _) (fl_s (fl_z ?_)); exact isV) | exact hnext _ _ (Frm.refl _ _) (fl_s (fl_z trivial)) | (refine fl_s (fl_z ?_); exact isV)
      case q13o2 =>
        intro s w' o ho hN hRd hFd next hnext
        cases ho
        have f24 := isV_eq (of_z (of_s ((hFd 1 24 (by kernel_rfl) rfl))))
        simp [go_sem, opsF, opF, upF, Region.wanted, Fr.ev, Fr.put, thenE, inBlockE, Oper.semAt, yieldF, f24]
        first | (refine hnext _ _ (Frm.refl _ _) (fl_s (fl_s (fl_z ?_))); exact isV) | exact hnext _ _ (Frm.refl _ _) (fl_s (fl_s (fl_z trivial))) | (refine fl_s (fl_s (fl_z ?_)); exact isV)
      case q13o3 =>
        intro s w' o ho hN hRd hFd next hnext
        cases ho
        have f25 := isV_eq (of_z (of_s (of_s ((hFd 2 25 (by kernel_rfl) rfl)))))
        have x0 := cell_new hN x0
        simp [go_sem, opsF, opF, upF, Region.wanted, Fr.ev, Fr.put, thenE, inBlockE, Oper.semAt, yieldF, f25, x0]
        first | (refine hnext _ _ (Frm.refl _ _) (fl_s (fl_s (fl_s (fl_z ?_)))); exact isV) | exact hnext _ _ (Frm.refl _ _) (fl_s (fl_s (fl_s (fl_z trivial)))) | (refine fl_s (fl_s (fl_s (fl_z ?_))); exact isV)
      case q13o4 =>
        intro s w' o ho hN hRd hFd next hnext
        cases ho
        have h0 := (hRd 0 (by kernel_rfl)).trans h0
        simp [go_sem, opsF, opF, upF, Region.wanted, Fr.ev, Fr.put, thenE, inBlockE, Oper.semAt, yieldF, h0]
        first | (refine hnext _ _ (Frm.refl _ _) (fl_s (fl_s (fl_s (fl_s (fl_z ?_))))); exact isV) | exact hnext _ _ (Frm.refl _ _) (fl_s (fl_s (fl_s (fl_s (fl_z trivial))))) | (refine fl_s (fl_s (fl_s (fl_s (fl_z ?_)))); exact isV)
      case q13o5 =>
        intro s w' o ho hN hRd hFd next hnext
        cases ho
        have f27 := isV_eq (of_z (of_s (of_s (of_s (of_s ((hFd 4 27 (by kernel_rfl) rfl)))))))
        have x0 := cell_new hN x0
        rw [if_pos (by simp [Region.wanted, yieldF, f27, x0])]
        refine opF_call rfl call7 (by simp [Fr.ev, f27, x0] <;> rfl) ?_
        refine (stop_any sb base root target _ l _ (hS1.new hN) hr).on ?_
        rintro _ w2 ⟨rfl, hw2⟩
        refine hnext _ _ hw2 (fl_s (fl_s (fl_s (fl_s (fl_s (fl_z ?_))))))
        exact isV
      case q13o6 =>
        intro s w' o ho hN hRd hFd next hnext
        cases ho
        have f26 := isV_eq (of_z (of_s (of_s (of_s ((hFd 3 26 (by kernel_rfl) rfl))))))
        have f28 := isV_eq (of_z (of_s (of_s (of_s (of_s (of_s ((hFd 5 28 (by kernel_rfl) rfl))))))))
        have x0 := cell_new hN x0
        rw [if_pos (by simp [Region.wanted, yieldF, f26, f28, x0])]
        refine opF_call rfl call16 (by simp [Fr.ev, f26, f28, x0] <;> rfl) ?_
        refine (pivot_any base (topOf l) _ hw.b1 ht.1 (by omega)).on ?_
        rintro _ w2 ⟨rfl, rfl⟩
        refine hnext _ _ (Frm.refl _ _) (fl_s (fl_s (fl_s (fl_s (fl_s (fl_s (fl_z ?_)))))))
        exact isV
      case q13o7 =>
        intro s w' o ho hN hRd hFd next hnext
        cases ho
        have f29 := isV_eq (of_z (of_s (of_s (of_s (of_s (of_s (of_s ((hFd 6 29 (by kernel_rfl) rfl)))))))))
        simp [go_sem, opsF, opF, upF, Region.wanted, Fr.ev, Fr.put, thenE, inBlockE, Oper.semAt, yieldF, f29]
        first | (refine hnext _ _ (Frm.refl _ _) (fl_s (fl_s (fl_s (fl_s (fl_s (fl_s (fl_s (fl_z ?_)))))))); exact isV) | exact hnext _ _ (Frm.refl _ _) (fl_s (fl_s (fl_s (fl_s (fl_s (fl_s (fl_s (fl_z trivial)))))))) | (refine fl_s (fl_s (fl_s (fl_s (fl_s (fl_s (fl_s (fl_z ?_))))))); exact isV)
      case q13o8 =>
        intro s w' o ho hN hRd hFd next hnext
        cases ho
        have f22 := isV_eq (of_z (of_s (of_s (of_s (of_s (of_s (of_s (of_s ((hFd 7 22 (by kernel_rfl) rfl))))))))))
        simp [go_sem, opsF, opF, upF, Region.wanted, Fr.ev, Fr.put, thenE, inBlockE, Oper.semAt, yieldF, f22]
        first | (refine hnext _ _ (Frm.refl _ _) (fl_s (fl_s (fl_s (fl_s (fl_s (fl_s (fl_s (fl_s (fl_z ?_))))))))); exact isV) | exact hnext _ _ (Frm.refl _ _) (fl_s (fl_s (fl_s (fl_s (fl_s (fl_s (fl_s (fl_s (fl_z trivial))))))))) | (refine fl_s (fl_s (fl_s (fl_s (fl_s (fl_s (fl_s (fl_s (fl_z ?_)))))))); exact isV)
      case q13o9 =>
        intro s w' o ho hN hRd hFd next hnext
        cases ho
        have f22 := isV_eq (of_z (of_s (of_s (of_s (of_s (of_s (of_s (of_s ((hFd 7 22 (by kernel_rfl) rfl))))))))))
        simp [go_sem, opsF, opF, upF, Region.wanted, Fr.ev, Fr.put, thenE, inBlockE, Oper.semAt, yieldF, f22]
        first | (refine hnext _ _ (Frm.refl _ _) (fl_s (fl_s (fl_s (fl_s (fl_s (fl_s (fl_s (fl_s (fl_s (fl_z ?_)))))))))); exact isV) | exact hnext _ _ (Frm.refl _ _) (fl_s (fl_s (fl_s (fl_s (fl_s (fl_s (fl_s (fl_s (fl_s (fl_z trivial)))))))))) | (refine fl_s (fl_s (fl_s (fl_s (fl_s (fl_s (fl_s (fl_s (fl_s (fl_z ?_))))))))); exact isV)
      case q13o10 =>
        intro s w' o ho hN hRd hFd next hnext
        cases ho
        have f30 := isV_eq (of_z (of_s (of_s (of_s (of_s (of_s (of_s (of_s (of_s ((hFd 8 30 (by kernel_rfl) rfl)))))))))))
        simp [go_sem, opsF, opF, upF, Region.wanted, Fr.ev, Fr.put, thenE, inBlockE, Oper.semAt, yieldF, f30]
        first | (refine hnext _ _ (Frm.refl _ _) (fl_s (fl_s (fl_s (fl_s (fl_s (fl_s (fl_s (fl_s (fl_s (fl_s (fl_z ?_))))))))))); exact isV) | exact hnext _ _ (Frm.refl _ _) (fl_s (fl_s (fl_s (fl_s (fl_s (fl_s (fl_s (fl_s (fl_s (fl_s (fl_z trivial))))))))))) | (refine fl_s (fl_s (fl_s (fl_s (fl_s (fl_s (fl_s (fl_s (fl_s (fl_s (fl_z ?_)))))))))); exact isV)
      case q13o11 =>
        intro s w' o ho hN hRd hFd next hnext
        cases ho
        have f31 := isV_eq (of_z (of_s (of_s (of_s (of_s (of_s (of_s (of_s (of_s (of_s ((hFd 9 31 (by kernel_rfl) rfl))))))))))))
        simp [go_sem, opsF, opF, upF, Region.wanted, Fr.ev, Fr.put, thenE, inBlockE, Oper.semAt, yieldF, f31]
        first | (refine hnext _ _ (Frm.refl _ _) (fl_s (fl_s (fl_s (fl_s (fl_s (fl_s (fl_s (fl_s (fl_s (fl_s (fl_s (fl_z ?_)))))))))))); exact isV) | exact hnext _ _ (Frm.refl _ _) (fl_s (fl_s (fl_s (fl_s (fl_s (fl_s (fl_s (fl_s (fl_s (fl_s (fl_s (fl_z trivial)))))))))))) | (refine fl_s (fl_s (fl_s (fl_s (fl_s (fl_s (fl_s (fl_s (fl_s (fl_s (fl_s (fl_z ?_))))))))))); exact isV)
      intro s wD hN hds' hRd hFd
      have hds := hds'.trans hds
      clear hds'
      have h0 := (hRd 0 (by kernel_rfl)).trans h0
      have h9 := (hRd 9 (by kernel_rfl)).trans h9
      have h4 := isV_eq (of_z (of_s (of_s (of_s (of_s (of_s (of_s (of_s (of_s (of_s (of_s ((hFd 10 4 (by decide) rfl)))))))))))))
      have x0 := cell_new hN x0
      clear hRd hFd
      simp only [List.drop_succ_cons, List.drop_zero, opsF, thenE, inBlockE]
      refine on_kf hK12 [(0, _), (4, _)] (fa_cons h0 (fa_cons (by simp [h0, h4, h9] <;> rfl) fa_nil)) hds ?_
      clear hK12 h0 h4 h9 hds; intro s hs hds
      obtain ⟨h0, h4⟩ := facts2 hs; clear hs
      refine at_seq rfl fun K14 hK14 => ?_
      (conv => arg 4; whnf)
      refine fw_region_lit rfl ?_
      refine ops_take 4 fun KO hKO => ?_
      simp [go_sem, opsF, opF, upF, Region.wanted, Fr.ev, Fr.put, thenE, inBlockE, Oper.semAt, yieldF, h0, h4]
      refine hKO _ _ ?_
      clear hKO
      simp only [List.drop_succ_cons, List.drop_zero]
      refine ops_call rfl rfl rfl call22 (by simp [Fr.ev, h0, h4] <;> rfl) ?_
      have hS2 := hS1.new hN
      refine (push_any sb base root target lv l (midOf base (topOf l)) _ hS2 (by have := hw.len; omega)).on ?_
      rintro _ w3 ⟨rfl, lv', hS3, hF3, hO3⟩
      simp [go_sem, opsF, opF, upF, Region.wanted, Fr.ev, Fr.put, thenE, inBlockE, Oper.semAt, yieldF, h0, h4]
      refine on_kf hK14 [(4, _)] (fa_cons h4 fa_nil) hds ?_
      clear hK14 h0 h4 hds; intro s hs hds
      have h4 : s.t 4 = _ := hs (4, _) (List.mem_singleton_self _); clear hs
      refine at_seq rfl fun K15 hK15 => ?_
      (conv => arg 4; whnf)
      refine fw_region_lit rfl ?_
      simp [go_sem, opsF, opF, upF, Region.wanted, Fr.ev, Fr.put, thenE, inBlockE, Oper.semAt, yieldF, h4]
      refine on_kf hK15 [(2, _), (3, _)] (fa_cons (by simp [h4] <;> rfl) (fa_cons (by simp [h4] <;> rfl) fa_nil)) hds ?_
      clear hK15 h4 hds; intro s hs hds
      obtain ⟨h2, h3⟩ := facts2 hs; clear hs
      refine at_ret rfl ?_
      try simp only [inBlockE, thenE]
      refine ret_two rfl hds ?_
      rw [if_neg (by simp [hl, hb]), h2, h3]
      exact ⟨rfl, lv', hS3, (Mut.of_new (New.trans hNA hN)).trans ⟨hF3, hO3⟩⟩
end Go.Proofs.Ytiejaopidkghdac
