/- The tries' iterator: what it hands on, by a plan's states. -/
import Derived.Test.YtiejaopidkghdacPh
namespace Go.Proofs.Ytiejaopidkghdac
set_option linter.unusedSimpArgs false
set_option linter.unusedVariables false
open Go.RowKit Go.Lf

/-- The state in which a try is handed on. -/
def pop1 (hold : Int → Int → Bool) (p : PS) : PS := if hold p.base (topOf p.l) = true then ⟨topOf p.l, p.l.dropLast⟩ else p

def AtK (w0 w : World) (B : PB) (F : Value → Option Value) (rec : Loop) (hold : Int → Int → Bool) (low high : Int) (k : Nat) : Prop :=
  PJ w0 w B F rec low high (pst hold low high k).base (pst hold low high k).l (trysOf hold low high k) (asksOf hold low high k)
def AtP (w0 w : World) (B : PB) (F : Value → Option Value) (rec : Loop) (hold : Int → Int → Bool) (low high : Int) (k : Nat) : Prop :=
  PJ w0 w B F rec low high (pop1 hold (pst hold low high k)).base (pop1 hold (pst hold low high k)).l (trysOf hold low high k) (asksOf hold low high k)
/-- The end, where all was reached. -/
def AtE (w0 w : World) (B : PB) (F : Value → Option Value) (rec : Loop) (hold : Int → Int → Bool) (low high : Int) (N : Nat) : Prop :=
  PJ w0 w B F rec low high (pop1 hold (pst hold low high N)).base (pop1 hold (pst hold low high N)).l (trysOf hold low high (N + 1)) (asksOf hold low high N)

def Tr.agg (t : Tr) : Value := .agg #[.int .i64 t.fr, .int .i64 t.to, .bool t.held]

def TrI (w0 : World) (B : PB) (F : Value → Option Value) (rec : Loop) (hold : Int → Int → Bool) (low high : Int) (N : Nat) (mm : Nat) (s : Fr) (w : World) : Prop :=
  s.ds = [] ∧ s.t 0 = .func (.yield B.L) #[] #[] ∧ s.t 1 = .pointer (some ⟨B.b1, 0, none⟩) ∧ s.t 2 = .pointer (some ⟨B.b2, 0, none⟩) ∧
    ((∃ k : Nat, k ≤ N ∧ mm = N + 1 - k ∧ AtK w0 w B F rec hold low high k) ∨ (mm = 0 ∧ hold (pst hold low high N).base (topOf (pst hold low high N).l) = true ∧ AtE w0 w B F rec hold low high N))

noncomputable def body26 : Code := Try.f26.body.getD .skip
theorem call26 (args : Array Value) (w : World) : (callFunc 26 args).run Try.prog w = .ok (.enter 26 args) w := callFunc_enter Try.func26 (by kernel_rfl) (by kernel_rfl) args w
set_option maxHeartbeats 1000000 in
theorem tries_it (w0 w : World) (B : PB) (F : Value → Option Value) (rec : Loop) (hold : Int → Int → Bool) (low high : Int) (N : Nat) (E : World → Prop) (g1 : 1 ≤ low) (g2 : low < high) (g3 : high ≤ 400) (hp : HasP F hold (.agg #[]))
    (hN : stp hold (pst hold low high N)) (hlt : ∀ k, k < N → ¬ stp hold (pst hold low high k))
    (hy : ∀ (k : Nat) w, k ≤ N → AtP w0 w B F rec hold low high k → YieldV Try.prog B.L #[(tryOf hold (pst hold low high k)).agg] w fun v w' =>
      (k < N ∧ v = .bool true ∧ AtK w0 w' B F rec hold low high (k + 1)) ∨ (k = N ∧ hold (pst hold low high N).base (topOf (pst hold low high N).l) = true ∧ v = .bool true ∧ AtE w0 w' B F rec hold low high N) ∨
        (k = N ∧ hold (pst hold low high N).base (topOf (pst hold low high N).l) = false ∧ v = .bool false ∧ E w')) (h0J : AtK w0 w B F rec hold low high 0) :
    CallsV Try.prog 26 #[.func (.yield B.L) #[] #[], .pointer (some ⟨B.b1, 0, none⟩), .pointer (some ⟨B.b2, 0, none⟩)] w fun _ w' =>
      (hold (pst hold low high N).base (topOf (pst hold low high N).l) = true ∧ AtE w0 w' B F rec hold low high N) ∨ (hold (pst hold low high N).base (topOf (pst hold low high N).l) = false ∧ E w') := by
  refine calls_at body26 Try.func26 rfl 30 rfl (by simp) fun s hs hds => ?_
  have h0 := hs 0 _ rfl
  have h1 := hs 1 _ rfl
  have h2 := hs 2 _ rfl
  clear hs
  refine at_block 0 rfl ?_
  refine at_loop rfl (TrI w0 B F rec hold low high N) (N + 1) ⟨hds, h0, h1, h2, .inl ⟨0, by omega, by omega, h0J⟩⟩ ?_
  clear h0 h1 h2 hds
  clear s h0J w
  rintro mm s w ⟨hds, h0, h1, h2, hJ⟩
  rcases hJ with ⟨k, hk, rfl, hJ⟩ | ⟨rfl, hh, hJ⟩
  · have hG := pst_good hold low high g1 g2 g3 hlt k hk
    unfold AtK at hJ
    generalize hps : pst hold low high k = p at *
    obtain ⟨base, l⟩ := p
    obtain ⟨ov, av, lv, hJ⟩ := hJ
    have c1 : w.cell? ⟨B.b1, 0, none⟩ = some (.pointer (some ⟨B.sb, 0, none⟩)) := hJ.pf.k1.cell 0
    refine at_seq rfl fun K1 hK1 => ?_
    refine at_seq rfl fun K2 hK2 => ?_
    (conv => arg 4; whnf)
    refine fw_region_lit rfl ?_
    refine ops_take 1 fun KO hKO => ?_
    simp [go_sem, opsF, opF, upF, Region.wanted, Fr.ev, Fr.put, thenE, inBlockE, Oper.semAt, yieldF, h0, h1, h2, c1]
    refine hKO _ _ ?_
    clear hKO
    simp only [List.drop_succ_cons, List.drop_zero]
    refine ops_call rfl rfl rfl call5 (by simp [Fr.ev, h0, h1, h2, c1] <;> rfl) ?_
    refine (done_any B.sb base low high lv l w hJ.si g1).on ?_
    rintro _ w1 ⟨rfl, rfl⟩
    rw [decide_eq_false hG.ne]
    simp [go_sem, opsF, opF, upF, Region.wanted, Fr.ev, Fr.put, thenE, inBlockE, Oper.semAt, yieldF, h0, h1, h2]
    refine on_kf hK2 [(0, _), (1, _), (2, _), (7, _)] (fa_cons h0 (fa_cons h1 (fa_cons h2 (fa_cons (by simp [h0, h1, h2] <;> rfl) fa_nil)))) hds ?_
    clear hK2 h0 h1 h2 hds; intro s hs hds
    obtain ⟨h0, h1, h2, h7⟩ := facts4 hs; clear hs
    refine at_true 7 rfl h7 ?_
    refine at_skip rfl ?_
    try simp only [inBlockE, thenE]
    refine hK1 _ _ ?_
    clear hK1
    refine at_block 1 rfl ?_
    refine at_seq rfl fun K3 hK3 => ?_
    have x0 : w1.cell? ⟨B.sb, 0, none⟩ = some (.int .i64 base) := hJ.si.blk.cell 0
    (conv => arg 4; whnf)
    refine' fw_region_facts 8 (FL [(IsV _), (IsV _), (IsV _), (IsV _), (IsV _), (IsV _), (IsV _), (IsBlk w1.heap.size #[.int .i64 0, .int .i64 0, .bool false] 43)]) mixed (by kernel_rfl) (by kernel_rfl) (by kernel_rfl) (by kernel_rfl) (fl_st _ ⟨stb_isV _, ⟨stb_isV _, ⟨stb_isV _, ⟨stb_isV _, ⟨stb_isV _, ⟨stb_isV _, ⟨stb_isV _, ⟨stb_isBlk _ _ _, trivial⟩⟩⟩⟩⟩⟩⟩⟩) (all_lt_succ (all_lt_succ (all_lt_succ (all_lt_succ (all_lt_succ (all_lt_succ (all_lt_succ (all_lt_succ all_lt_zero ?q4o0) ?q4o1) ?q4o2) ?q4o3) ?q4o4) ?q4o5) ?q4o6) ?q4o7) ?q4t
    case q4o0 =>
      intro s w' o ho hN hRd hFd next hnext
      cases ho
      have h1 := (hRd 1 (by kernel_rfl)).trans h1
      have c1 := cell_new hN c1
      have x0 := cell_new hN x0
      simp [go_sem, opsF, opF, upF, Region.wanted, Fr.ev, Fr.put, thenE, inBlockE, Oper.semAt, yieldF, h1, c1, x0]
      first | (refine hnext _ _ (Frm.refl _ _) (fl_z ?_); exact isV) | exact hnext _ _ (Frm.refl _ _) (fl_z trivial) | (refine fl_z ?_; exact isV)
    case q4o1 =>
      intro s w' o ho hN hRd hFd next hnext
      cases ho
      have f8 := isV_eq (of_z ((hFd 0 8 (by kernel_rfl) rfl)))
      simp [go_sem, opsF, opF, upF, Region.wanted, Fr.ev, Fr.put, thenE, inBlockE, Oper.semAt, yieldF, f8]
      first | (refine hnext _ _ (Frm.refl _ _) (fl_s (fl_z ?_)); exact isV) | exact hnext _ _ (Frm.refl _ _) (fl_s (fl_z trivial)) | (refine fl_s (fl_z ?_); exact isV)
    case q4o2 =>
      intro s w' o ho hN hRd hFd next hnext
      cases ho
      have f9 := isV_eq (of_z (of_s ((hFd 1 9 (by kernel_rfl) rfl))))
      simp [go_sem, opsF, opF, upF, Region.wanted, Fr.ev, Fr.put, thenE, inBlockE, Oper.semAt, yieldF, f9]
      first | (refine hnext _ _ (Frm.refl _ _) (fl_s (fl_s (fl_z ?_))); exact isV) | exact hnext _ _ (Frm.refl _ _) (fl_s (fl_s (fl_z trivial))) | (refine fl_s (fl_s (fl_z ?_)); exact isV)
    case q4o3 =>
      intro s w' o ho hN hRd hFd next hnext
      cases ho
      have f10 := isV_eq (of_z (of_s (of_s ((hFd 2 10 (by kernel_rfl) rfl)))))
      have c1 := cell_new hN c1
      have x0 := cell_new hN x0
      simp [go_sem, opsF, opF, upF, Region.wanted, Fr.ev, Fr.put, thenE, inBlockE, Oper.semAt, yieldF, f10, c1, x0]
      first | (refine hnext _ _ (Frm.refl _ _) (fl_s (fl_s (fl_s (fl_z ?_)))); exact isV) | exact hnext _ _ (Frm.refl _ _) (fl_s (fl_s (fl_s (fl_z trivial)))) | (refine fl_s (fl_s (fl_s (fl_z ?_))); exact isV)
    case q4o4 =>
      intro s w' o ho hN hRd hFd next hnext
      cases ho
      have h1 := (hRd 1 (by kernel_rfl)).trans h1
      have c1 := cell_new hN c1
      have x0 := cell_new hN x0
      simp [go_sem, opsF, opF, upF, Region.wanted, Fr.ev, Fr.put, thenE, inBlockE, Oper.semAt, yieldF, h1, c1, x0]
      first | (refine hnext _ _ (Frm.refl _ _) (fl_s (fl_s (fl_s (fl_s (fl_z ?_))))); exact isV) | exact hnext _ _ (Frm.refl _ _) (fl_s (fl_s (fl_s (fl_s (fl_z trivial))))) | (refine fl_s (fl_s (fl_s (fl_s (fl_z ?_)))); exact isV)
    case q4o5 =>
      intro s w' o ho hN hRd hFd next hnext
      cases ho
      have f12 := isV_eq (of_z (of_s (of_s (of_s (of_s ((hFd 4 12 (by kernel_rfl) rfl)))))))
      have c1 := cell_new hN c1
      have x0 := cell_new hN x0
      rw [if_pos (by simp [Region.wanted, yieldF, f12, c1, x0])]
      refine opF_call rfl call7 (by simp [Fr.ev, f12, c1, x0] <;> rfl) ?_
      refine (stop_any B.sb base low high lv l _ (hJ.si.new hN) g1).on ?_
      rintro _ w2 ⟨rfl, hw2⟩
      refine hnext _ _ hw2 (fl_s (fl_s (fl_s (fl_s (fl_s (fl_z ?_))))))
      exact isV
    case q4o6 =>
      intro s w' o ho hN hRd hFd next hnext
      cases ho
      have f11 := isV_eq (of_z (of_s (of_s (of_s ((hFd 3 11 (by kernel_rfl) rfl))))))
      have f13 := isV_eq (of_z (of_s (of_s (of_s (of_s (of_s ((hFd 5 13 (by kernel_rfl) rfl))))))))
      simp [go_sem, opsF, opF, upF, Region.wanted, Fr.ev, Fr.put, thenE, inBlockE, Oper.semAt, yieldF, f11, f13]
      first | (refine hnext _ _ (Frm.refl _ _) (fl_s (fl_s (fl_s (fl_s (fl_s (fl_s (fl_z ?_))))))); exact isV) | exact hnext _ _ (Frm.refl _ _) (fl_s (fl_s (fl_s (fl_s (fl_s (fl_s (fl_z trivial))))))) | (refine fl_s (fl_s (fl_s (fl_s (fl_s (fl_s (fl_z ?_)))))); exact isV)
    case q4o7 =>
      intro s w' o ho hN hRd hFd next hnext
      cases ho
      have c1 := cell_new hN c1
      have x0 := cell_new hN x0
      simp [go_sem, opsF, opF, upF, Region.wanted, Fr.ev, Fr.put, thenE, inBlockE, Oper.semAt, yieldF, c1, x0]
      refine hnext _ _ (Frm.alloc _ _ _) (fl_s (fl_s (fl_s (fl_s (fl_s (fl_s (fl_s (fl_z ?_))))))))
      exact ⟨_, rfl, hN.size, Blk.new _ _ _⟩
    intro s wD hN hds' hRd hFd
    have hds := hds'.trans hds
    clear hds'
    have h0 := (hRd 0 (by kernel_rfl)).trans h0
    have h1 := (hRd 1 (by kernel_rfl)).trans h1
    have h2 := (hRd 2 (by kernel_rfl)).trans h2
    have h7 := (hRd 7 (by kernel_rfl)).trans h7
    have f4 := of_z (of_s (of_s (of_s (of_s (of_s (of_s (of_s ((hFd 7 4 (by decide) rfl)))))))))
    have h14 := isV_eq (of_z (of_s (of_s (of_s (of_s (of_s (of_s ((hFd 6 14 (by decide) rfl)))))))))
    have c1 := cell_new hN c1
    have x0 := cell_new hN x0
    clear hRd hFd
    simp only [List.drop_succ_cons, List.drop_zero]
    obtain ⟨bt, h4, hge, hbt⟩ := f4
    have y0 := hbt.cell 0
    have z0 := hbt.frozen 0
    have y1 := hbt.cell 1
    have z1 := hbt.frozen 1
    have y2 := hbt.cell 2
    have z2 := hbt.frozen 2
    try simp [go_sem, opsF, opF, upF, Region.wanted, Fr.ev, Fr.put, thenE, inBlockE, Oper.semAt, yieldF, h0, h1, h2, h4, h7, h14, y0, z0, y1, z1, y2, z2]
    have hb3 := ((hbt.set 0 (.int .i64 base)).set 1 (.int .i64 (topOf l))).set 2 (.bool false)
    have hset : Frm (fun b => b = bt) wD (((wD.setCell ⟨bt, 0, none⟩ (.int .i64 base)).setCell ⟨bt, 1, none⟩ (.int .i64 (topOf l))).setCell ⟨bt, 2, none⟩ (.bool false)) :=
      ((Frm.setCell (S := fun b => b = bt) wD ⟨bt, 0, none⟩ _ rfl).comp (Frm.setCell (S := fun b => b = bt) _ ⟨bt, 1, none⟩ _ rfl) (fun _ _ h => h) (fun _ _ h => h)).comp (Frm.setCell (S := fun b => b = bt) _ ⟨bt, 2, none⟩ _ rfl) (fun _ _ h => h) (fun _ _ h => h)
    generalize ((wD.setCell ⟨bt, 0, none⟩ (.int .i64 base)).setCell ⟨bt, 1, none⟩ (.int .i64 (topOf l))).setCell ⟨bt, 2, none⟩ (.bool false) = w2 at *
    have hb3 : Blk w2 bt #[.int .i64 base, .int .i64 (topOf l), .bool false] 43 := hb3
    have hN2 : New w1 w2 := Frm.trans hN hset (fun b hb e => by omega)
    have hJ2 := hJ.new hN2
    have hwt := hG.wf.top hG.ne
    have hw1 := hG.wf.b1
    simp only at hwt hw1
    clear hN hset hbt y0 y1 y2 z0 z1 z2 c1 x0
    have c2 : w2.cell? ⟨B.b2, 0, none⟩ = some (.func (.func 25) #[] #[.pointer (some ⟨B.b11, 0, none⟩)]) := hJ2.pf.k2.cell 0
    have y0 := hb3.cell 0
    have y1 := hb3.cell 1
    refine on_kf hK3 [(0, _), (1, _), (2, _), (4, _)] (fa_cons h0 (fa_cons h1 (fa_cons h2 (fa_cons h4 fa_nil)))) hds ?_
    clear hK3 h0 h1 h2 h4 h7 h14 hds; intro s hs hds
    obtain ⟨h0, h1, h2, h4⟩ := facts4 hs; clear hs
    refine at_seq rfl fun K5 hK5 => ?_
    (conv => arg 4; whnf)
    refine fw_region_lit rfl ?_
    refine ops_take 5 fun KO hKO => ?_
    simp [go_sem, opsF, opF, upF, Region.wanted, Fr.ev, Fr.put, thenE, inBlockE, Oper.semAt, yieldF, h0, h1, h2, h4, c2, y0, y1]
    refine hKO _ _ ?_
    clear hKO
    simp only [List.drop_succ_cons, List.drop_zero]
    refine ops_callv rfl rfl rfl call25 (by simp [Fr.ev, h0, h1, h2, h4] <;> rfl) (by simp [Fr.ev, h0, h1, h2, h4] <;> rfl) ?_
    refine (plan1_any B.b11 B.mb F hold base (topOf l) w2 hJ2.pf.c11 hJ2.pf.mp hp (by omega) (by omega)).on ?_
    rintro _ w3 ⟨rfl, hw3⟩
    have hb4 := hb3.frm hw3 (fun h => h)
    have y2 := hb4.cell 2
    have z2 := hb4.frozen 2
    simp [go_sem, opsF, opF, upF, Region.wanted, Fr.ev, Fr.put, thenE, inBlockE, Oper.semAt, yieldF, h0, h1, h2, h4, y2, z2]
    have hb5 : Blk (w3.setCell ⟨bt, 2, none⟩ (.bool (hold base (topOf l)))) bt #[.int .i64 base, .int .i64 (topOf l), .bool (hold base (topOf l))] 43 := hb4.set 2 _
    have hN4 : New w1 (w3.setCell ⟨bt, 2, none⟩ (.bool (hold base (topOf l)))) := Frm.trans (New.trans hN2 hw3) (Frm.setCell (S := fun b => b = bt) _ ⟨bt, 2, none⟩ _ rfl) (fun b hb e => by omega)
    generalize w3.setCell ⟨bt, 2, none⟩ (.bool (hold base (topOf l))) = w4 at *
    have hJ4 := hJ.new hN4
    have v2 := hb5.cell 2
    clear hJ2 hb3 hb4 hw3 y0 y1 y2 z2 c2 hN2
    refine on_kf hK5 [(0, _), (1, _), (2, _), (4, _)] (fa_cons h0 (fa_cons h1 (fa_cons h2 (fa_cons h4 fa_nil)))) hds ?_
    clear hK5 h0 h1 h2 h4 hds; intro s hs hds
    obtain ⟨h0, h1, h2, h4⟩ := facts4 hs; clear hs
    refine at_seq rfl fun K6 hK6 => ?_
    refine at_seq rfl fun K7 hK7 => ?_
    (conv => arg 4; whnf)
    refine fw_region_lit rfl ?_
    simp [go_sem, opsF, opF, upF, Region.wanted, Fr.ev, Fr.put, thenE, inBlockE, Oper.semAt, yieldF, h0, h1, h2, h4, v2]
    refine on_kf hK7 [(0, _), (1, _), (2, _), (4, _), (23, _)] (fa_cons h0 (fa_cons h1 (fa_cons h2 (fa_cons h4 (fa_cons (by simp [h0, h1, h2, h4, v2] <;> rfl) fa_nil))))) hds ?_
    clear hK7 h0 h1 h2 h4 hds; intro s hs hds
    obtain ⟨h0, h1, h2, h4, h23⟩ := facts5 hs; clear hs
    have hrest : ∀ (s : Fr) (w' : World), s.ds = [] → s.t 0 = .func (.yield B.L) #[] #[] → s.t 1 = .pointer (some ⟨B.b1, 0, none⟩) → s.t 2 = .pointer (some ⟨B.b2, 0, none⟩) → s.t 4 = .pointer (some ⟨bt, 0, none⟩) →
        Blk w' bt #[.int .i64 base, .int .i64 (topOf l), .bool (hold base (topOf l))] 43 → AtP w0 w' B F rec hold low high k → K6 s w' := by
      clear h0 h1 h2 h4 h23 hds
      intro s w' hds h0 h1 h2 h4 hb hP
      refine hK6 _ _ ?_
      clear hK6
      have y0 := hb.cell 0
      have y1 := hb.cell 1
      have y2 := hb.cell 2
      refine at_seq rfl fun K8 hK8 => ?_
      (conv => arg 4; whnf)
      refine fw_region_lit rfl ?_
      refine ops_take 2 fun KO hKO => ?_
      simp [go_sem, opsF, opF, upF, Region.wanted, Fr.ev, Fr.put, thenE, inBlockE, Oper.semAt, yieldF, h0, h1, h2, h4, y0, y1, y2]
      refine hKO _ _ ?_
      clear hKO
      simp only [List.drop_succ_cons, List.drop_zero]
      refine ops_yield rfl rfl rfl (by simp [Fr.ev, h0, h1, h2, h4, y0, y1, y2] <;> rfl) (by simp [Fr.ev, h0, h1, h2, h4, y0, y1, y2] <;> rfl) ?_
      have hyy := hy k w' hk hP
      rw [hps] at hyy
      refine hyy.on ?_
      rintro v w6 hcases
      rcases hcases with ⟨hkN, rfl, hA⟩ | ⟨hkN, hh, rfl, hA⟩ | ⟨hkN, hh, rfl, hA⟩
      · simp [go_sem, opsF, opF, upF, Region.wanted, Fr.ev, Fr.put, thenE, inBlockE, Oper.semAt, yieldF, h0, h1, h2, h4]
        refine on_kf hK8 [(0, _), (1, _), (2, _), (29, _)] (fa_cons h0 (fa_cons h1 (fa_cons h2 (fa_cons (by simp [h0, h1, h2, h4] <;> rfl) fa_nil)))) hds ?_
        clear hK8 h0 h1 h2 h4 hds; intro s hs hds
        obtain ⟨h0, h1, h2, h29⟩ := facts4 hs; clear hs
        refine at_false 29 rfl h29 ?_
        refine at_skip rfl ?_
        try simp only [inBlockE, thenE]
        exact ⟨N + 1 - (k + 1), by omega, hds, h0, h1, h2, .inl ⟨k + 1, by omega, rfl, hA⟩⟩
      · simp [go_sem, opsF, opF, upF, Region.wanted, Fr.ev, Fr.put, thenE, inBlockE, Oper.semAt, yieldF, h0, h1, h2, h4]
        refine on_kf hK8 [(0, _), (1, _), (2, _), (29, _)] (fa_cons h0 (fa_cons h1 (fa_cons h2 (fa_cons (by simp [h0, h1, h2, h4] <;> rfl) fa_nil)))) hds ?_
        clear hK8 h0 h1 h2 h4 hds; intro s hs hds
        obtain ⟨h0, h1, h2, h29⟩ := facts4 hs; clear hs
        refine at_false 29 rfl h29 ?_
        refine at_skip rfl ?_
        try simp only [inBlockE, thenE]
        exact ⟨0, by omega, hds, h0, h1, h2, .inr ⟨rfl, hh, hA⟩⟩
      · simp [go_sem, opsF, opF, upF, Region.wanted, Fr.ev, Fr.put, thenE, inBlockE, Oper.semAt, yieldF, h0, h1, h2, h4]
        refine on_kf hK8 [(0, _), (1, _), (2, _), (29, _)] (fa_cons h0 (fa_cons h1 (fa_cons h2 (fa_cons (by simp [h0, h1, h2, h4] <;> rfl) fa_nil)))) hds ?_
        clear hK8 h0 h1 h2 h4 hds; intro s hs hds
        obtain ⟨h0, h1, h2, h29⟩ := facts4 hs; clear hs
        refine at_true 29 rfl h29 ?_
        refine at_ret rfl ?_
        try simp only [inBlockE, thenE]
        exact ret_none rfl hds (.inr ⟨hh, hA⟩)
    by_cases hh : hold base (topOf l) = true
    · rw [hh] at h23
      refine at_true 23 rfl h23 ?_
      have c4 : w4.cell? ⟨B.b1, 0, none⟩ = some (.pointer (some ⟨B.sb, 0, none⟩)) := hJ4.pf.k1.cell 0
      (conv => arg 4; whnf)
      refine fw_region_lit rfl ?_
      refine ops_take 1 fun KO hKO => ?_
      simp [go_sem, opsF, opF, upF, Region.wanted, Fr.ev, Fr.put, thenE, inBlockE, Oper.semAt, yieldF, h0, h1, h2, h4, h23, c4]
      refine hKO _ _ ?_
      clear hKO
      simp only [List.drop_succ_cons, List.drop_zero]
      refine ops_call rfl rfl rfl call10 (by simp [Fr.ev, h0, h1, h2, h4, h23, c4] <;> rfl) ?_
      refine (pop_any B.sb base low high lv l w4 hJ4.si g1).on ?_
      rintro _ w5 hpop
      rw [if_neg hG.ne] at hpop
      obtain ⟨rfl, lv', hS5, hM5⟩ := hpop
      simp [go_sem, opsF, opF, upF, Region.wanted, Fr.ev, Fr.put, thenE, inBlockE, Oper.semAt, yieldF, h0, h1, h2, h4, h23]
      have hJ5 := hJ4.stack hM5 hS5
      have hbt5 := hb5.frm hM5.frm (by
        rintro (e | e)
        · exact hb5.ne hJ4.si.blk (by decide) e
        · exact hJ4.si.row.notBlk hb5 (by decide) e)
      refine hrest _ _ hds (by simp [h0]) (by simp [h1]) (by simp [h2]) (by simp [h4]) hbt5 ?_
      unfold AtP
      rw [hps]
      unfold pop1
      rw [if_pos hh]
      exact ⟨_, _, _, hJ5⟩
    · have hf : hold base (topOf l) = false := by simpa using hh
      rw [hf] at h23
      refine at_false 23 rfl h23 ?_
      refine at_skip rfl ?_
      simp only [inBlockE, thenE]
      refine hrest _ _ hds h0 h1 h2 h4 hb5 ?_
      unfold AtP
      rw [hps]
      unfold pop1
      rw [if_neg hh]
      exact ⟨_, _, _, hJ4⟩
  · unfold AtE at hJ
    obtain ⟨ov, av, lv, hJ⟩ := hJ
    have c1 : w.cell? ⟨B.b1, 0, none⟩ = some (.pointer (some ⟨B.sb, 0, none⟩)) := hJ.pf.k1.cell 0
    have hnil : (pop1 hold (pst hold low high N)).l = [] := by
      unfold pop1
      rw [if_pos hh]
      rcases hN with h | h
      · exact h.2
      · rw [hh] at h; cases h.1
    refine at_seq rfl fun K9 hK9 => ?_
    refine at_seq rfl fun K10 hK10 => ?_
    (conv => arg 4; whnf)
    refine fw_region_lit rfl ?_
    refine ops_take 1 fun KO hKO => ?_
    simp [go_sem, opsF, opF, upF, Region.wanted, Fr.ev, Fr.put, thenE, inBlockE, Oper.semAt, yieldF, h0, h1, h2, c1]
    refine hKO _ _ ?_
    clear hKO
    simp only [List.drop_succ_cons, List.drop_zero]
    refine ops_call rfl rfl rfl call5 (by simp [Fr.ev, h0, h1, h2, c1] <;> rfl) ?_
    refine (done_any B.sb _ low high lv _ w hJ.si g1).on ?_
    rintro _ w1 ⟨rfl, rfl⟩
    rw [decide_eq_true hnil]
    simp [go_sem, opsF, opF, upF, Region.wanted, Fr.ev, Fr.put, thenE, inBlockE, Oper.semAt, yieldF, h0, h1, h2]
    refine on_kf hK10 [(0, _), (1, _), (2, _), (7, _)] (fa_cons h0 (fa_cons h1 (fa_cons h2 (fa_cons (by simp [h0, h1, h2] <;> rfl) fa_nil)))) hds ?_
    clear hK10 h0 h1 h2 hds; intro s hs hds
    obtain ⟨h0, h1, h2, h7⟩ := facts4 hs; clear hs
    refine at_false 7 rfl h7 ?_
    refine at_exit 0 rfl ?_
    simp only [inBlockE, thenE, if_true]
    exact end_none rfl hds (.inl ⟨hh, ov, av, lv, hJ⟩)
end Go.Proofs.Ytiejaopidkghdac
