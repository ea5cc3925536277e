/- A plan. -/
import Derived.Test.YtiejaopidkghdacPj
namespace Go.Proofs.Ytiejaopidkghdac
set_option linter.unusedSimpArgs false
set_option linter.unusedVariables false
open Go.RowKit Go.Lf

theorem info43 : (Try.prog.info? 43).map (fun i => (i.zero, i.size, i.bytes)) = some (some (.agg #[.int .i64 0, .int .i64 0, .bool false]), 3, 24) := by kernel_rfl

theorem recOf_state (fn : FuncId) (T : Array Value) (ps : Array Tmp) (a b : Code) (d : Nat) : (recOf fn T ps a b d).state = .ready := rfl

/-- A round of the plan. -/
def bodyB : Code := .skip

set_option maxHeartbeats 4000000 in
theorem plan_rest (s : Fr) (w0 w : World) (R : Value → World → Prop) (b6 b7 b10 b11 mb sb : Nat) (F : Value → Option Value) (low high : Int) (lv : Value) (hold : Int → Int → Bool) (N : Nat) (g1 : 1 ≤ low) (g2 : low < high) (g3 : high ≤ 400)
    (hN : stp hold (pst hold low high N)) (hlt : ∀ k, k < N → ¬ stp hold (pst hold low high k)) (hNm : N ≤ 500000) (hF : HasP F hold (.agg #[])) (hM : PM w0 w b6 b7 b10 b11 mb sb F low high lv)
    (hds : s.ds = []) (h1 : s.t 1 = .int .i64 high) (h6 : s.t 6 = .pointer (some ⟨b6, 0, none⟩)) (h7 : s.t 7 = .pointer (some ⟨b7, 0, none⟩)) (h10 : s.t 10 = .pointer (some ⟨b10, 0, none⟩)) (h11 : s.t 11 = .pointer (some ⟨b11, 0, none⟩))
    (hR : ∀ ov av w', Row w' 43 3 ov (N + 1) (trs (trysOf hold low high (N + 1))) → Row w' 3 1 av (asksOf hold low high N).length ((asksOf hold low high N).map (Value.int .i64)) → New w0 w' → (∀ k, ov.ownBlock = some k ∨ av.ownBlock = some k → w0.heap.size ≤ k) →
      R (.tuple #[ov, av, .bool (hold (pst hold low high N).base (topOf (pst hold low high N).l)), .int .i64 0]) w') :
    FW Try.prog 70 none (sub body15 [1,1,1,1,1]) (postF Try.prog Try.f15 R) s w := by
  have hA := Frm.alloc (fun _ => False) w (.cells #[.int .i64 high] 3)
  have hrow := Row.new w [.int .i64 high] 3 1 1 rfl (by unfold maxLen; omega)
  have hM1 := hM.new hA
  have hgw : ∀ k, lv.ownBlock = some k → k < w.heap.size := hM.si.row.lt
  have hsz := hM.nw.size
  generalize hwA : w.alloc (.cells #[Value.int .i64 high] 3) = w1 at *
  generalize hg : w.heap.size = g at *
  have y7 := hM1.c7.cell 0
  have f7 := hM1.c7.frozen 0
  have hset := Frm.setCell (S := fun b => b = b7) w1 ⟨b7, 0, none⟩ (.slice (some ⟨g, 0, none⟩) 1 1) rfl
  have hc7 : Blk (w1.setCell ⟨b7, 0, none⟩ (.slice (some ⟨g, 0, none⟩) 1 1)) b7 #[.slice (some ⟨g, 0, none⟩) 1 1] 30 := hM1.c7.set 0 _
  have hrow2 := hrow.frm hset (fun k hk e => hrow.notBlk hM1.c7 (by decide) (e ▸ hk))
  have hc6 := hM1.c6.frm hset (hM1.c6.ne hM1.c7 (by decide))
  have hc10 := hM1.c10.frm hset (hM1.c10.ne hM1.c7 (by decide))
  have hc11 := hM1.c11.frm hset (hM1.c11.ne hM1.c7 (by decide))
  have hmp := hM1.mp.frm hset (fun e => by obtain ⟨es, ck, hh, _⟩ := hM1.mp; exact obj_ne hh hM1.c7 (by simp) e)
  have hsi := hM1.si.frm hset (hM1.si.blk.ne hM1.c7 (by decide)) (fun k hk e => hM1.si.row.notBlk hM1.c7 (by decide) (e ▸ hk))
  have hnw : New w0 (w1.setCell ⟨b7, 0, none⟩ (.slice (some ⟨g, 0, none⟩) 1 1)) := Frm.trans hM1.nw hset (fun b hb e => by have := hM1.g7; omega)
  refine at_seq rfl fun K1 hK1 => ?_
  (conv => arg 4; whnf)
  refine fw_region_lit rfl ?_
  simp [go_sem, opsF, opF, upF, Region.wanted, Fr.ev, Fr.put, thenE, inBlockE, Oper.semAt, yieldF, h1, h6, h7, h10, h11, hwA, hg, y7, f7]
  refine on_kf hK1 [(6, _), (7, _), (10, _), (11, _)] (fa_cons h6 (fa_cons h7 (fa_cons h10 (fa_cons h11 fa_nil)))) hds ?_
  clear hK1 h1 h6 h7 h10 h11 hds; intro s hs hds
  obtain ⟨h6, h7, h10, h11⟩ := facts4 hs; clear hs
  refine at_seq rfl fun K2 hK2 => ?_
  refine at_seq rfl fun K3 hK3 => ?_
  generalize w1.setCell ⟨b7, 0, none⟩ (.slice (some ⟨g, 0, none⟩) 1 1) = w2 at *
  have y10 := hc10.cell 0
  (conv => arg 4; whnf)
  refine fw_region_lit rfl ?_
  refine ops_take 2 fun KO hKO => ?_
  simp [go_sem, opsF, opF, upF, Region.wanted, Fr.ev, Fr.put, thenE, inBlockE, Oper.semAt, yieldF, h6, h7, h10, h11, y10]
  refine hKO _ _ ?_
  clear hKO
  simp only [List.drop_succ_cons, List.drop_zero]
  refine ops_call rfl rfl rfl call24 (by simp [Fr.ev, h6, h7, h10, h11, y10] <;> rfl) ?_
  refine (tries_any sb b11 w2).on ?_
  rintro _ w3 ⟨b1, b2, rfl, hn3, hb1, hb2, hk1, hk2⟩
  simp [go_sem, opsF, opF, upF, Region.wanted, Fr.ev, Fr.put, thenE, inBlockE, Oper.semAt, yieldF, h6, h7, h10, h11]
  refine on_kf hK3 [(6, _), (7, _), (10, _), (47, _)] (fa_cons h6 (fa_cons h7 (fa_cons h10 (fa_cons (by simp [h6, h7, h10, h11] <;> rfl) fa_nil)))) hds ?_
  clear hK3 h6 h7 h10 h11 hds; intro s hs hds
  obtain ⟨h6, h7, h10, h47⟩ := facts4 hs; clear hs
  refine at_block 3 rfl ?_
  refine at_range (g := .tmp 47) (ps := #[48]) rfl (gf := 26) (cap := #[.pointer (some ⟨b1, 0, none⟩), .pointer (some ⟨b2, 0, none⟩)]) h47 call26 ?_
  intro fn T wC hT hTg hC hszC hdf hrc
  have hs2 := hnw.size
  have hs3 := hn3.size
  have hrowC := (hrow2.frm hn3 (fun _ _ h => h)).frm hC (fun _ _ h => h)
  have hPK : PK w0 wC ⟨b6, b7, b10, b11, mb, sb, w3.heap.size + 1, w3.heap.size, b1, b2⟩ F (recOf fn T #[48] (sub body15 [0,0,1,0,1,1,1,1,1,1]) (sub body15 [1,0,1,0,1,1,1,1,1,1]) w3.heap.size) low high low [high] [] [high] (.slice none 0 0) (.slice (some ⟨g, 0, none⟩) 1 1) lv := by
    refine ⟨⟨(hc10.frm hn3 (fun h => h)).frm hC (fun h => h), (hc11.frm hn3 (fun h => h)).frm hC (fun h => h), hk1.frm hC (fun h => h), hk2.frm hC (fun h => h), (hmp.frm hn3 (fun h => h)).frm hC (fun h => h), hdf⟩, hrc, (hc6.frm hn3 (fun h => h)).frm hC (fun h => h), Row.nil _ _ _, (hc7.frm hn3 (fun h => h)).frm hC (fun h => h), hrowC, (hsi.new hn3).new hC, ?_, New.trans hnw (New.trans hn3 hC), ?_, hM.g6, hM.g7, hM.gs, by show w0.heap.size ≤ w3.heap.size + 1; omega⟩
    · intro k hk e
      cases hk
      have : g < g := hgw _ e
      omega
    · rintro k (h | h | h)
      · cases h
      · cases h; show w0.heap.size ≤ g; omega
      · exact hM.gl k h
  clear hc10 hc11 hmp hc6 hc7 hrow2 hrow hrowC hM1 hset hA y7 f7 y10 hk1 hk2 hsi hdf hrc
  generalize hL : w3.heap.size + 1 = L at *
  generalize hd : w3.heap.size = d at *
  have hLd : w0.heap.size ≤ d := by omega
  generalize hrec : recOf fn T #[48] (sub body15 [0,0,1,0,1,1,1,1,1,1]) (sub body15 [1,0,1,0,1,1,1,1,1,1]) d = rec at *
  generalize hBB : (⟨b6, b7, b10, b11, mb, sb, L, d, b1, b2⟩ : PB) = B at *
  have eL : L = B.L := by rw [← hBB]
  have ed : d = B.d := by rw [← hBB]
  have e1 : b1 = B.b1 := by rw [← hBB]
  have e2 : b2 = B.b2 := by rw [← hBB]
  have e6 : b6 = B.b6 := by rw [← hBB]
  have e7 : b7 = B.b7 := by rw [← hBB]
  have e10 : b10 = B.b10 := by rw [← hBB]
  have esb : sb = B.sb := by rw [← hBB]
  clear hBB hL hd
  subst eL ed e1 e2 e6 e7 e10 esb
  have hJ0 : AtK w0 wC B F rec hold low high 0 := ⟨_, _, _, hPK⟩
  refine (tries_it w0 wC B F rec hold low high N (fun w' => PJ w0 w' B F { rec with state := .done, pending := some (.exit 3) } low high (pst hold low high N).base (pst hold low high N).l (trysOf hold low high (N + 1)) (asksOf hold low high N)) g1 g2 g3 hF hN hlt ?_ hJ0).on ?_
  · intro k w' hk hP
    have hG := pst_good hold low high g1 g2 g3 hlt k hk
    unfold AtP at hP
    have hkk := fun e : k = N => hN
    have hstp : k < N → ¬ stp hold (pst hold low high k) := hlt k
    have hstN : k = N → stp hold (pst hold low high k) := fun e => e ▸ hN
    have hsucc : pst hold low high (k + 1) = nxt hold (pst hold low high k) := rfl
    have htr := trysOf_succ hold low high k
    have htl := trysOf_len hold low high k
    have hal := asksOf_len hold low high k
    have has : asksOf hold low high (k + 1) = if hold (pst hold low high k).base (topOf (pst hold low high k).l) = true then asksOf hold low high k else asksOf hold low high k ++ [midOf (pst hold low high k).base (topOf (pst hold low high k).l)] := rfl
    obtain ⟨ov, av, lv2, hK⟩ := hP
    have hK0 := hK
    refine yieldV_of (by rw [← hrec] at hK; exact hK.lp) rfl rfl hT s.t hTg (by simp [recOf]) ?_
    dsimp only [recOf]
    unfold Tr.agg tryOf
    simp only [List.zip_cons_cons, List.zip_nil_right, List.foldl_cons, List.foldl_nil]
    generalize hpk : pst hold low high k = p at *
    have hA := Frm.alloc (fun _ => False) w' (.cells #[.int .i64 p.base, .int .i64 (topOf p.l), .bool (hold p.base (topOf p.l))] 43)
    have hb14 := Blk.new w' #[.int .i64 p.base, .int .i64 (topOf p.l), .bool (hold p.base (topOf p.l))] 43
    have hov := hK.ro.lt
    refine reframe (D := []) [(6, _), (7, _), (10, _), (48, _)] (fa_cons (by simp [h6, h7, h10] <;> rfl) (fa_cons (by simp [h6, h7, h10] <;> rfl) (fa_cons (by simp [h6, h7, h10] <;> rfl) (fa_cons (by simp [h6, h7, h10] <;> rfl) fa_nil)))) rfl ?_
    clear h6 h7 h10
    intro s hs hds
    obtain ⟨h6, h7, h10, h48⟩ := facts4 hs; clear hs
    (conv => arg 4; whnf)
    refine fw_region_lit rfl ?_
    simp [go_sem, opsF, opF, upF, Region.wanted, Fr.ev, Fr.put, thenE, inBlockE, Oper.semAt, yieldF, h6, h7, h10, h48]
    refine ⟨rfl, _, (hK.new hA).lp, by rw [← hrec]; rfl, ?_⟩
    have hKb := (hK.new hA).put { rec with state := .busy }
    have hput := Frm.putObj (S := fun b => b = B.L) (w'.alloc (.cells #[.int .i64 p.base, .int .i64 (topOf p.l), .bool (hold p.base (topOf p.l))] 43)) B.L (.loop { rec with state := .busy }) rfl
    have hb14b := hb14.frm hput (obj_ne hb14 (hK.new hA).lp (by simp))
    have hszA := hA.size
    have hszP := hput.size
    generalize (w'.alloc (.cells #[.int .i64 p.base, .int .i64 (topOf p.l), .bool (hold p.base (topOf p.l))] 43)).putObj B.L (.loop { rec with state := .busy }) = wB at *
    generalize hb14n : w'.heap.size = b14 at *
    clear hA hb14 hput
    refine reframe [(6, _), (7, _), (10, _), (14, _)] (fa_cons (by simp [h6, h7, h10, h48] <;> rfl) (fa_cons (by simp [h6, h7, h10, h48] <;> rfl) (fa_cons (by simp [h6, h7, h10, h48] <;> rfl) (fa_cons (by simp [h6, h7, h10, h48] <;> rfl) fa_nil)))) hds ?_
    clear h6 h7 h10 h48
    intro s hs hds
    obtain ⟨h6, h7, h10, h14⟩ := facts4 hs; clear hs
    refine at_block 4 rfl ?_
    refine at_seq rfl fun K4 hK4 => ?_
    have y6 := hKb.c6.cell 0
    have y0 := hb14b.cell 0
    have y1 := hb14b.cell 1
    have y2 := hb14b.cell 2
    obtain ⟨ov', w2, hap, hb2, hb3, hrow, hFr, hown⟩ := hKb.ro.growAt hKb.c6 (by decide) (P := Try.prog) (S := 41) (ty := 41) Try.underlying41 info43 rfl (by decide) [.int .i64 p.base, .int .i64 (topOf p.l), .bool (hold p.base (topOf p.l))] rfl (by simp [Value.oneCell']) (by unfold maxLen; omega) (by omega)
    obtain ⟨og, oc, rfl⟩ : ∃ og oc, ov' = .slice (some ⟨og, 0, none⟩) ((trysOf hold low high k).length + 1) oc := by
      rcases hrow.val with ⟨_, h, _⟩ | ⟨g, cap, h, _⟩
      · omega
      · exact ⟨g, cap, h⟩
    have hQ6 := hKb.out (ts' := trysOf hold low high (k + 1)) hFr hb3 (by rw [htr]; simpa [trs, Tr.enc, tryOf] using hrow) hown
    have yy6 := hb2.cell 0
    have ff6 := hb2.frozen 0
    have hb14c := hb14b.frm hFr (by
      rintro (e | e)
      · exact hb14b.ne hKb.c6 (by decide) e
      · have := hov _ e; omega)
    (conv => arg 4; whnf)
    refine fw_region_lit rfl ?_
    refine ops_take 3 fun KO hKO => ?_
    simp [go_sem, opsF, opF, upF, Region.wanted, Fr.ev, Fr.put, thenE, inBlockE, Oper.semAt, yieldF, h6, h7, h10, h14, y6, y0, y1, y2]
    refine hKO _ _ ?_
    clear hKO
    refine ops_append rfl rfl rfl (v := ov) (u := .slice (some ⟨wB.heap.size, 0, none⟩) 1 1) (by simp [Fr.ev]) (by simp [Fr.ev]) hap ?_
    try simp [go_sem, opsF, opF, upF, Region.wanted, Fr.ev, Fr.put, thenE, inBlockE, Oper.semAt, yieldF, h6, h7, h10, h14, yy6, ff6]
    generalize w2.setCell ⟨B.b6, 0, none⟩ (.slice (some ⟨og, 0, none⟩) ((trysOf hold low high k).length + 1) oc) = w3b at *
    have y2 := hb14c.cell 2
    refine on_kf hK4 [(6, _), (7, _), (10, _), (14, _)] (fa_cons h6 (fa_cons h7 (fa_cons h10 (fa_cons h14 fa_nil)))) hds ?_
    clear hK4 h6 h7 h10 h14 hds; intro s hs hds
    obtain ⟨h6, h7, h10, h14⟩ := facts4 hs; clear hs
    refine at_seq rfl fun K5 hK5 => ?_
    refine at_seq rfl fun K6 hK6 => ?_
    (conv => arg 4; whnf)
    refine fw_region_lit rfl ?_
    simp [go_sem, opsF, opF, upF, Region.wanted, Fr.ev, Fr.put, thenE, inBlockE, Oper.semAt, yieldF, h6, h7, h10, h14, y2]
    refine on_kf hK6 [(6, _), (7, _), (10, _), (54, _)] (fa_cons h6 (fa_cons h7 (fa_cons h10 (fa_cons (by simp [h6, h7, h10, h14, y2] <;> rfl) fa_nil)))) hds ?_
    clear hK6 h6 h7 h10 h14 hds; intro s hs hds
    obtain ⟨h6, h7, h10, h54⟩ := facts4 hs; clear hs
    have hre : ({ ({ rec with state := .busy } : Loop) with state := .ready, pending := none } : Loop) = rec := by rw [← hrec]; rfl
    by_cases hh : hold p.base (topOf p.l) = true
    · rw [hh] at h54
      have hp1 : pop1 hold p = ⟨topOf p.l, p.l.dropLast⟩ := by unfold pop1; rw [if_pos hh]
      refine at_true 54 rfl h54 ?_
      refine at_exit 4 rfl ?_
      simp only [inBlockE, thenE, if_true]
      refine ⟨_, hQ6.lp, ?_⟩
      rw [hre]
      have hKe := hQ6.put rec
      by_cases hkN : k < N
      · refine .inl ⟨hkN, rfl, ?_⟩
        unfold AtK
        rw [hsucc, has, if_pos hh]
        unfold nxt
        rw [if_pos hh]
        rw [hp1] at hKe
        exact ⟨_, _, _, hKe⟩
      · have hkN' : k = N := by omega
        subst hkN'
        refine .inr (.inl ⟨rfl, by rw [hpk]; exact hh, rfl, ?_⟩)
        unfold AtE
        rw [hpk]
        exact ⟨_, _, _, hKe⟩
    · have hf : hold p.base (topOf p.l) = false := by simpa using hh
      rw [hf] at h54
      have hp1 : pop1 hold p = p := by unfold pop1; rw [if_neg hh]
      rw [hp1] at hQ6
      refine at_false 54 rfl h54 ?_
      refine at_skip rfl ?_
      try simp only [inBlockE, thenE]
      refine hK5 _ _ ?_
      clear hK5
      refine at_seq rfl fun K7 hK7 => ?_
      have y10 := hQ6.pf.c10.cell 0
      (conv => arg 4; whnf)
      refine fw_region_lit rfl ?_
      refine ops_take 1 fun KO hKO => ?_
      simp [go_sem, opsF, opF, upF, Region.wanted, Fr.ev, Fr.put, thenE, inBlockE, Oper.semAt, yieldF, h6, h7, h10, h54, y10]
      refine hKO _ _ ?_
      clear hKO
      simp only [List.drop_succ_cons, List.drop_zero]
      refine ops_call rfl rfl rfl call9 (by simp [Fr.ev, h6, h7, h10, h54, y10] <;> rfl) ?_
      refine (split_any B.sb p.base low high lv2 p.l w3b hQ6.si g1 hG.wf).on ?_
      rintro v w4 hsp
      by_cases htop : topOf p.l = p.base + 1
      · rw [if_pos (.inr htop)] at hsp
        obtain ⟨rfl, hn4⟩ := hsp
        have hkN : k = N := by
          rcases Nat.lt_or_ge k N with h | h
          · exact absurd (.inr ⟨hf, htop⟩) (hstp h)
          · omega
        subst hkN
        have hQ7 := hQ6.new hn4
        simp [go_sem, opsF, opF, upF, Region.wanted, Fr.ev, Fr.put, thenE, inBlockE, Oper.semAt, yieldF, h6, h7, h10, h54]
        refine on_kf hK7 [(6, _), (7, _), (10, _), (15, _), (16, _)] (fa_cons h6 (fa_cons h7 (fa_cons h10 (fa_cons (by simp [h6, h7, h10, h54] <;> rfl) (fa_cons (by simp [h6, h7, h10, h54] <;> rfl) fa_nil))))) hds ?_
        clear hK7 h6 h7 h10 h54 hds; intro s hs hds
        obtain ⟨h6, h7, h10, h15, h16⟩ := facts5 hs; clear hs
        refine at_seq rfl fun K8 hK8 => ?_
        refine at_seq rfl fun K9 hK9 => ?_
        (conv => arg 4; whnf)
        refine fw_region_lit rfl ?_
        simp [go_sem, opsF, opF, upF, Region.wanted, Fr.ev, Fr.put, thenE, inBlockE, Oper.semAt, yieldF, h6, h7, h10, h15, h16]
        refine on_kf hK9 [(6, _), (7, _), (10, _), (15, _), (61, _)] (fa_cons h6 (fa_cons h7 (fa_cons h10 (fa_cons h15 (fa_cons (by simp [h6, h7, h10, h15, h16] <;> rfl) fa_nil))))) hds ?_
        clear hK9 h6 h7 h10 h15 h16 hds; intro s hs hds
        obtain ⟨h6, h7, h10, h15, h61⟩ := facts5 hs; clear hs
        refine at_true 61 rfl h61 ?_
        refine at_exit 3 rfl ?_
        simp only [inBlockE, thenE]
        refine ⟨_, hQ7.lp, .inr (.inr ⟨trivial, by rw [hpk]; exact hf, rfl, ?_⟩)⟩
        rw [hpk]
        exact ⟨_, _, _, hQ7.put _⟩
      · have hno : ¬ (p.l = [] ∨ topOf p.l = p.base + 1) := by
          rintro (h | h)
          · exact hG.ne h
          · exact htop h
        rw [if_neg hno] at hsp
        obtain ⟨rfl, lv3, hS4, hM4⟩ := hsp
        have hkN : k < N := by
          rcases Nat.lt_or_ge k N with h | h
          · exact h
          · have h' : k = N := by omega
            rcases hstN h' with h1 | h1
            · rw [hf] at h1; cases h1.1
            · exact absurd h1.2 htop
        have hQ7 := hQ6.stack hM4 hS4
        have y7 := hQ7.c7.cell 0
        obtain ⟨av', w5, hap5, hb5, hb6, hrow5, hFr5, hown5⟩ := hQ7.ra.growAt hQ7.c7 (by decide) (P := Try.prog) (S := 30) (ty := 30) Try.underlying30 info3 rfl (by decide) [.int .i64 (midOf p.base (topOf p.l))] rfl (by simp [Value.oneCell']) (by unfold maxLen; omega) (by omega)
        obtain ⟨qg, qc, rfl⟩ : ∃ og oc, av' = .slice (some ⟨og, 0, none⟩) ((asksOf hold low high k).length + 1) oc := by
          rcases hrow5.val with ⟨_, h, _⟩ | ⟨g, cap, h, _⟩
          · omega
          · exact ⟨g, cap, h⟩
        have hQ8 := hQ7.ask (qs' := asksOf hold low high k ++ [midOf p.base (topOf p.l)]) hFr5 hb6 (by simpa using hrow5) hown5
        have yy7 := hb5.cell 0
        have ff7 := hb5.frozen 0
        simp [go_sem, opsF, opF, upF, Region.wanted, Fr.ev, Fr.put, thenE, inBlockE, Oper.semAt, yieldF, h6, h7, h10, h54]
        refine on_kf hK7 [(6, _), (7, _), (10, _), (15, _), (16, _)] (fa_cons h6 (fa_cons h7 (fa_cons h10 (fa_cons (by simp [h6, h7, h10, h54] <;> rfl) (fa_cons (by simp [h6, h7, h10, h54] <;> rfl) fa_nil))))) hds ?_
        clear hK7 h6 h7 h10 h54 hds; intro s hs hds
        obtain ⟨h6, h7, h10, h15, h16⟩ := facts5 hs; clear hs
        refine at_seq rfl fun K10 hK10 => ?_
        refine at_seq rfl fun K11 hK11 => ?_
        (conv => arg 4; whnf)
        refine fw_region_lit rfl ?_
        simp [go_sem, opsF, opF, upF, Region.wanted, Fr.ev, Fr.put, thenE, inBlockE, Oper.semAt, yieldF, h6, h7, h10, h15, h16]
        refine on_kf hK11 [(6, _), (7, _), (10, _), (15, _), (61, _)] (fa_cons h6 (fa_cons h7 (fa_cons h10 (fa_cons h15 (fa_cons (by simp [h6, h7, h10, h15, h16] <;> rfl) fa_nil))))) hds ?_
        clear hK11 h6 h7 h10 h15 h16 hds; intro s hs hds
        obtain ⟨h6, h7, h10, h15, h61⟩ := facts5 hs; clear hs
        refine at_false 61 rfl h61 ?_
        refine at_skip rfl ?_
        try simp only [inBlockE, thenE]
        refine hK10 _ _ ?_
        clear hK10
        (conv => arg 4; whnf)
        refine fw_region_lit rfl ?_
        refine ops_take 3 fun KO hKO => ?_
        simp [go_sem, opsF, opF, upF, Region.wanted, Fr.ev, Fr.put, thenE, inBlockE, Oper.semAt, yieldF, h6, h7, h10, h15, h61, y7]
        refine hKO _ _ ?_
        clear hKO
        refine ops_append rfl rfl rfl (v := av) (u := .slice (some ⟨w4.heap.size, 0, none⟩) 1 1) (by simp [Fr.ev]) (by simp [Fr.ev]) hap5 ?_
        try simp [go_sem, opsF, opF, upF, Region.wanted, Fr.ev, Fr.put, thenE, inBlockE, Oper.semAt, yieldF, h6, h7, h10, h15, h61, yy7, ff7]
        refine ⟨_, hQ8.lp, ?_⟩
        rw [hre]
        refine .inl ⟨hkN, rfl, ?_⟩
        unfold AtK
        rw [hsucc, has, if_neg hh]
        unfold nxt
        rw [if_neg hh]
        exact ⟨_, _, _, hQ8.put rec⟩
  · have hend : ∀ (s' : Fr) (w' : World) (rec' : Loop), s'.ds = [{ target := .collected B.d, args := #[] }] → s'.t 6 = .pointer (some ⟨B.b6, 0, none⟩) → s'.t 7 = .pointer (some ⟨B.b7, 0, none⟩) → s'.t 10 = .pointer (some ⟨B.b10, 0, none⟩) →
        PJ w0 w' B F rec' low high (pop1 hold (pst hold low high N)).base (pop1 hold (pst hold low high N)).l (trysOf hold low high (N + 1)) (asksOf hold low high N) → K2 s' w' := by
      clear h6 h7 h10 h47 hds
      intro s w' rec' hds h6 h7 h10 hJ
      refine hK2 _ _ ?_
      clear hK2
      obtain ⟨ov, av, lv2, hK⟩ := hJ
      have hK0 := hK
      have hdone : decide ((pop1 hold (pst hold low high N)).l = []) = hold (pst hold low high N).base (topOf (pst hold low high N).l) := by
        have hG := pst_good hold low high g1 g2 g3 hlt N (Nat.le_refl _)
        unfold pop1
        rcases hN with h | h
        · rw [if_pos h.1, h.1]; simp [h.2]
        · rw [if_neg (by rw [h.1]; simp), h.1]; simp [hG.ne]
      generalize hold (pst hold low high N).base (topOf (pst hold low high N).l) = hv at *
      generalize pop1 hold (pst hold low high N) = p at *
      have hov : ∃ ad cap, ov = .slice ad (trysOf hold low high (N + 1)).length cap := by
        rcases hK.ro.val with ⟨h, h', _⟩ | ⟨g, cap, h, _⟩
        · exact ⟨none, 0, by rw [h, h']⟩
        · exact ⟨_, cap, h⟩
      have hav : ∃ ad cap, av = .slice ad (asksOf hold low high N).length cap := by
        rcases hK.ra.val with ⟨h, h', _⟩ | ⟨g, cap, h, _⟩
        · exact ⟨none, 0, by rw [h, h']⟩
        · exact ⟨_, cap, h⟩
      obtain ⟨o1, o2, rfl⟩ := hov
      obtain ⟨a1, a2, rfl⟩ := hav
      generalize htl : (trysOf hold low high (N + 1)).length = tl at *
      generalize hal : (asksOf hold low high N).length = al at *
      have x6 : w'.cell? ⟨B.b6, 0, none⟩ = some (.slice o1 tl o2) := hK.c6.cell 0
      have x7 : w'.cell? ⟨B.b7, 0, none⟩ = some (.slice a1 al a2) := hK.c7.cell 0
      have x10 : w'.cell? ⟨B.b10, 0, none⟩ = some (.pointer (some ⟨B.sb, 0, none⟩)) := hK.pf.c10.cell 0
      refine at_seq rfl fun K12 hK12 => ?_
      (conv => arg 4; whnf)
      refine' fw_region_facts 8 (FL [(IsV _), (IsV _), (IsV _), (IsV _), (Any), (Any), (IsV _), (IsV _)]) mixed (by kernel_rfl) (by kernel_rfl) (by kernel_rfl) (by kernel_rfl) (fl_st _ ⟨stb_isV _, ⟨stb_isV _, ⟨stb_isV _, ⟨stb_isV _, ⟨stb_any, ⟨stb_any, ⟨stb_isV _, ⟨stb_isV _, trivial⟩⟩⟩⟩⟩⟩⟩⟩) (all_lt_succ (all_lt_succ (all_lt_succ (all_lt_succ (all_lt_succ (all_lt_succ (all_lt_succ (all_lt_succ all_lt_zero ?q13o0) ?q13o1) ?q13o2) ?q13o3) ?q13o4) ?q13o5) ?q13o6) ?q13o7) ?q13t
      case q13o0 =>
        intro s w' o ho hN hRd hFd next hnext
        cases ho
        have h6 := (hRd 6 (by kernel_rfl)).trans h6
        have x6 := cell_new hN x6
        have x7 := cell_new hN x7
        have x10 := cell_new hN x10
        simp [go_sem, opsF, opF, upF, Region.wanted, Fr.ev, Fr.put, thenE, inBlockE, Oper.semAt, yieldF, h6, x6, x7, x10]
        first | (refine hnext _ _ (Frm.refl _ _) (fl_z ?_); exact isV) | exact hnext _ _ (Frm.refl _ _) (fl_z trivial) | (refine fl_z ?_; exact isV)
      case q13o1 =>
        intro s w' o ho hN hRd hFd next hnext
        cases ho
        have h7 := (hRd 7 (by kernel_rfl)).trans h7
        have x6 := cell_new hN x6
        have x7 := cell_new hN x7
        have x10 := cell_new hN x10
        simp [go_sem, opsF, opF, upF, Region.wanted, Fr.ev, Fr.put, thenE, inBlockE, Oper.semAt, yieldF, h7, x6, x7, x10]
        first | (refine hnext _ _ (Frm.refl _ _) (fl_s (fl_z ?_)); exact isV) | exact hnext _ _ (Frm.refl _ _) (fl_s (fl_z trivial)) | (refine fl_s (fl_z ?_); exact isV)
      case q13o2 =>
        intro s w' o ho hN hRd hFd next hnext
        cases ho
        have h10 := (hRd 10 (by kernel_rfl)).trans h10
        have x6 := cell_new hN x6
        have x7 := cell_new hN x7
        have x10 := cell_new hN x10
        simp [go_sem, opsF, opF, upF, Region.wanted, Fr.ev, Fr.put, thenE, inBlockE, Oper.semAt, yieldF, h10, x6, x7, x10]
        first | (refine hnext _ _ (Frm.refl _ _) (fl_s (fl_s (fl_z ?_))); exact isV) | exact hnext _ _ (Frm.refl _ _) (fl_s (fl_s (fl_z trivial))) | (refine fl_s (fl_s (fl_z ?_)); exact isV)
      case q13o3 =>
        intro s w' o ho hN hRd hFd next hnext
        cases ho
        have f68 := isV_eq (of_z (of_s (of_s ((hFd 2 68 (by kernel_rfl) rfl)))))
        have x6 := cell_new hN x6
        have x7 := cell_new hN x7
        have x10 := cell_new hN x10
        rw [if_pos (by simp [Region.wanted, yieldF, f68, x6, x7, x10])]
        refine opF_call rfl call5 (by simp [Fr.ev, f68, x6, x7, x10] <;> rfl) ?_
        refine (done_any B.sb _ low high lv2 _ _ ((hK.new hN).si) g1).on ?_
        rintro _ w2 ⟨rfl, rfl⟩
        rw [hdone]
        refine hnext _ _ (Frm.refl _ _) (fl_s (fl_s (fl_s (fl_z ?_))))
        exact isV
      case q13o4 =>
        intro s w' o ho hN hRd hFd next hnext
        cases ho
        have h6 := (hRd 6 (by kernel_rfl)).trans h6
        have f66 := isV_eq (of_z ((hFd 0 66 (by kernel_rfl) rfl)))
        have x6 := cell_new hN x6
        have x7 := cell_new hN x7
        have x10 := cell_new hN x10
        have hKs := hK.new hN
        have ff := hKs.c6.frozen 0
        simp [go_sem, opsF, opF, upF, Region.wanted, Fr.ev, Fr.put, thenE, inBlockE, Oper.semAt, yieldF, h6, f66, x6, x7, x10, ff]
        rw [setCell_same hKs.c6]
        refine hnext undef _ (Frm.refl _ _) (fl_s (fl_s (fl_s (fl_s (fl_z ?_)))))
        exact trivial
      case q13o5 =>
        intro s w' o ho hN hRd hFd next hnext
        cases ho
        have h7 := (hRd 7 (by kernel_rfl)).trans h7
        have f67 := isV_eq (of_z (of_s ((hFd 1 67 (by kernel_rfl) rfl))))
        have x6 := cell_new hN x6
        have x7 := cell_new hN x7
        have x10 := cell_new hN x10
        have hKs := hK.new hN
        have ff := hKs.c7.frozen 0
        simp [go_sem, opsF, opF, upF, Region.wanted, Fr.ev, Fr.put, thenE, inBlockE, Oper.semAt, yieldF, h7, f67, x6, x7, x10, ff]
        rw [setCell_same hKs.c7]
        refine hnext undef _ (Frm.refl _ _) (fl_s (fl_s (fl_s (fl_s (fl_s (fl_z ?_))))))
        exact trivial
      case q13o6 =>
        intro s w' o ho hN hRd hFd next hnext
        cases ho
        have f69 := isV_eq (of_z (of_s (of_s (of_s ((hFd 3 69 (by kernel_rfl) rfl))))))
        simp [go_sem, opsF, opF, upF, Region.wanted, Fr.ev, Fr.put, thenE, inBlockE, Oper.semAt, yieldF, f69]
        first | (refine hnext _ _ (Frm.refl _ _) (fl_s (fl_s (fl_s (fl_s (fl_s (fl_s (fl_z ?_))))))); exact isV) | exact hnext _ _ (Frm.refl _ _) (fl_s (fl_s (fl_s (fl_s (fl_s (fl_s (fl_z trivial))))))) | (refine fl_s (fl_s (fl_s (fl_s (fl_s (fl_s (fl_z ?_)))))); exact isV)
      case q13o7 =>
        intro s w' o ho hN hRd hFd next hnext
        cases ho
        simp [go_sem, opsF, opF, upF, Region.wanted, Fr.ev, Fr.put, thenE, inBlockE, Oper.semAt, yieldF]
        first | (refine hnext _ _ (Frm.refl _ _) (fl_s (fl_s (fl_s (fl_s (fl_s (fl_s (fl_s (fl_z ?_)))))))); exact isV) | exact hnext _ _ (Frm.refl _ _) (fl_s (fl_s (fl_s (fl_s (fl_s (fl_s (fl_s (fl_z trivial)))))))) | (refine fl_s (fl_s (fl_s (fl_s (fl_s (fl_s (fl_s (fl_z ?_))))))); exact isV)
      intro s wD hN hds' hRd hFd
      have hds := hds'.trans hds
      clear hds'
      have h6 := (hRd 6 (by kernel_rfl)).trans h6
      have h7 := (hRd 7 (by kernel_rfl)).trans h7
      have h10 := (hRd 10 (by kernel_rfl)).trans h10
      have h8 := isV_eq (of_z (of_s (of_s (of_s (of_s (of_s (of_s ((hFd 6 8 (by decide) rfl)))))))))
      have h9 := isV_eq (of_z (of_s (of_s (of_s (of_s (of_s (of_s (of_s ((hFd 7 9 (by decide) rfl))))))))))
      have x6 := cell_new hN x6
      have x7 := cell_new hN x7
      have x10 := cell_new hN x10
      clear hRd hFd
      simp only [List.drop_succ_cons, List.drop_zero, opsF, thenE, inBlockE]
      have hK2 := hK.new hN
      have hdf := hK2.pf.df
      have hro := hK2.ro
      have hra := hK2.ra
      have hnw := hK2.nw
      have hb6' := hK2.c6
      have hb7' := hK2.c7
      refine on_kf hK12 [(6, _), (7, _), (8, _), (9, _)] (fa_cons h6 (fa_cons h7 (fa_cons (by simp [h6, h7, h8, h9, h10] <;> rfl) (fa_cons (by simp [h6, h7, h8, h9, h10] <;> rfl) fa_nil)))) hds ?_
      clear hK12 h6 h7 h8 h9 h10 hds; intro s hs hds
      obtain ⟨h6, h7, h8, h9⟩ := facts4 hs; clear hs
      generalize wD = wE at *
      refine at_ret rfl ?_
      show leaveF _ _ _ _ s.ds _
      rw [hds]
      have hput := Frm.putObj (S := fun b => b = B.d) wE B.d (.deferred none) rfl
      have z6 := (hb6'.frm hput (fun e => obj_ne hb6' hdf (by simp) e)).cell 0
      have z7 := (hb7'.frm hput (fun e => obj_ne hb7' hdf (by simp) e)).cell 0
      simp only [List.getElem?_toArray, List.getElem?_cons_zero] at z6 z7
      refine ⟨_, rfl, hdf, .tuple #[.slice o1 tl o2, .slice a1 al a2, .bool hv, .int .i64 0], by simp [resF, Try.results15, h6, h7, h8, h9, go_sem, z6, z7], ?_⟩
      refine hR _ _ _ ?_ ?_ (Frm.trans hnw hput (fun b hb e => by omega)) (fun k hk => ?_)
      · have := hro.frm hput (fun k hk e => hro.not hdf (by simp) (e ▸ hk))
        have htn : tl = N + 1 := by rw [← htl, trysOf_len]
        rw [htn] at this ⊢
        first | exact this | (rw [trysOf_len] at this; exact this)
      · have := hra.frm hput (fun k hk e => hra.not hdf (by simp) (e ▸ hk))
        first | exact this | (rw [hal] at this; exact this) | (rw [hal]; exact this)
      · rcases hk with h | h
        · exact hK2.own k (.inl h)
        · exact hK2.own k (.inr (.inl h))
    rintro _ w' (⟨hh, hE⟩ | ⟨hh, hE⟩)
    · obtain ⟨ov, av, lv2, hK⟩ := hE
      refine ⟨_, hK.lp, by rw [← hrec]; simp [recOf], ?_⟩
      have hpn : rec.pending = none := by rw [← hrec]; rfl
      rw [hpn]
      simp only [inBlockE, thenE]
      refine hend _ _ { rec with state := .exhausted, pending := none } (by rw [hds]) h6 h7 h10 ⟨_, _, _, hK.put _⟩
    · obtain ⟨ov, av, lv2, hK⟩ := hE
      refine ⟨_, hK.lp, by simp, ?_⟩
      dsimp only
      refine fw_exit ?_
      simp only [inBlockE, thenE, if_true]
      have hp1 : pop1 hold (pst hold low high N) = pst hold low high N := by unfold pop1; rw [if_neg (by rw [hh]; simp)]
      refine hend _ _ { rec with state := .exhausted, pending := some (.exit 3) } (by rw [hds]) h6 h7 h10 ?_
      rw [hp1]
      exact ⟨_, _, _, hK.put _⟩

set_option maxHeartbeats 2000000 in
theorem plan_any (low high : Int) (pv : Value) (pairs : List (Int × Int)) (N : Nat) (w : World) (g1 : 1 ≤ low) (g2 : low < high) (g3 : high ≤ 400) (hpv : Row w 39 2 pv pairs.length (prs pairs)) (hl : pairs.length ≤ 100000)
    (hb : ∀ p ∈ pairs, (0 ≤ p.1 ∧ p.1 ≤ 1000000) ∧ (0 ≤ p.2 ∧ p.2 ≤ 1000000)) (hN : stp (holdOf pairs) (pst (holdOf pairs) low high N)) (hlt : ∀ k, k < N → ¬ stp (holdOf pairs) (pst (holdOf pairs) low high k)) (hNm : N ≤ 500000) :
    CallsV Try.prog 15 #[.int .i64 low, .int .i64 high, pv] w fun v w' => ∃ ov av, v = .tuple #[ov, av, .bool (holdOf pairs (pst (holdOf pairs) low high N).base (topOf (pst (holdOf pairs) low high N).l)), .int .i64 0] ∧
      Row w' 43 3 ov (N + 1) (trs (trysOf (holdOf pairs) low high (N + 1))) ∧ Row w' 3 1 av (asksOf (holdOf pairs) low high N).length ((asksOf (holdOf pairs) low high N).map (Value.int .i64)) ∧ New w w' ∧
      (∀ k, ov.ownBlock = some k ∨ av.ownBlock = some k → w.heap.size ≤ k) := by
  have d1 : IntKind.i64.wrap (high - low) = high - low := IntWalk.i64_in _ (by omega)
  have d2 : ¬ 4096 < high - low := by omega
  obtain ⟨pa, pc, rfl⟩ : ∃ ad cap, pv = .slice ad pairs.length cap := by
    rcases hpv.val with ⟨h, h', _⟩ | ⟨g, cap, h, _⟩
    · exact ⟨none, 0, by rw [h, h']⟩
    · exact ⟨_, cap, h⟩
  have hA1 := Frm.alloc (fun _ => False) w (.cells #[.slice none 0 0] 41)
  have hB6 := Blk.new w #[.slice none 0 0] 41
  have hA2 := Frm.alloc (fun _ => False) (w.alloc (.cells #[.slice none 0 0] 41)) (.cells #[.slice none 0 0] 30)
  have hB7 := Blk.new (w.alloc (.cells #[.slice none 0 0] 41)) #[.slice none 0 0] 30
  have hB6' := hB6.frm hA2 (fun h => h)
  have hW1 := New.trans hA1 hA2
  simp only [World.size_alloc] at hB7
  refine calls_at body15 Try.func15 rfl 70 rfl (by simp) fun s hs hds => ?_
  have h0 := hs 0 _ rfl
  have h1 := hs 1 _ rfl
  have h2 := hs 2 _ rfl
  try simp only [List.getElem_toArray, List.getElem_cons_zero, List.getElem_cons_succ] at h0 h1 h2
  clear hs
  refine at_seq rfl fun K14 hK14 => ?_
  (conv => arg 4; whnf)
  refine fw_region_lit rfl ?_
  simp [go_sem, opsF, opF, upF, Region.wanted, Fr.ev, Fr.put, thenE, inBlockE, Oper.semAt, yieldF, h0, h1, h2]
  refine on_kf hK14 [(0, _), (1, _), (2, _), (6, _), (7, _)] (fa_cons h0 (fa_cons h1 (fa_cons h2 (fa_cons (by simp [h0, h1, h2] <;> rfl) (fa_cons (by simp [h0, h1, h2] <;> rfl) fa_nil))))) hds ?_
  clear hK14 h0 h1 h2 hds; intro s hs hds
  obtain ⟨h0, h1, h2, h6, h7⟩ := facts5 hs; clear hs
  refine at_seq rfl fun K15 hK15 => ?_
  generalize (w.alloc (.cells #[.slice none 0 0] 41)).alloc (.cells #[.slice none 0 0] 30) = w1 at *
  (conv => arg 4; whnf)
  refine fw_region_lit rfl ?_
  refine ops_take 2 fun KO hKO => ?_
  simp [go_sem, opsF, opF, upF, Region.wanted, Fr.ev, Fr.put, thenE, inBlockE, Oper.semAt, yieldF, h0, h1, h2, h6, h7]
  refine hKO _ _ ?_
  clear hKO
  simp only [List.drop_succ_cons, List.drop_zero]
  refine ops_call rfl rfl rfl call4 (by simp [Fr.ev, h0, h1, h2, h6, h7] <;> rfl) ?_
  refine (new_any low high w1 g1 g2 g3).on ?_
  rintro _ w2 ⟨sb, lv, rfl, hS, hw2, hsb, hlo⟩
  simp [go_sem, opsF, opF, upF, Region.wanted, Fr.ev, Fr.put, thenE, inBlockE, Oper.semAt, yieldF, h0, h1, h2, h6, h7]
  have hA3 := Frm.alloc (fun _ => False) w2 (.cells #[.pointer (some ⟨sb, 0, none⟩)] 24)
  have hB10 := Blk.new w2 #[.pointer (some ⟨sb, 0, none⟩)] 24
  refine on_kf hK15 [(0, _), (1, _), (2, _), (6, _), (7, _), (9, _), (10, _)] (fa_cons h0 (fa_cons h1 (fa_cons h2 (fa_cons h6 (fa_cons h7 (fa_cons (by simp [h0, h1, h2, h6, h7] <;> rfl) (fa_cons (by simp [h0, h1, h2, h6, h7] <;> rfl) fa_nil))))))) hds ?_
  clear hK15 h0 h1 h2 h6 h7 hds; intro s hs hds
  obtain ⟨h0, h1, h2, h6, h7, h9, h10⟩ := facts7 hs; clear hs
  refine at_seq rfl fun K16 hK16 => ?_
  refine at_block 0 rfl ?_
  refine at_seq rfl fun K17 hK17 => ?_
  (conv => arg 4; whnf)
  refine fw_region_lit rfl ?_
  simp [go_sem, opsF, opF, upF, Region.wanted, Fr.ev, Fr.put, thenE, inBlockE, Oper.semAt, yieldF, h0, h1, h2, h6, h7, h9, h10]
  refine on_kf hK17 [(0, _), (1, _), (2, _), (6, _), (7, _), (9, _), (10, _), (23, _)] (fa_cons h0 (fa_cons h1 (fa_cons h2 (fa_cons h6 (fa_cons h7 (fa_cons h9 (fa_cons h10 (fa_cons (by simp [h0, h1, h2, h6, h7, h9, h10] <;> rfl) fa_nil)))))))) hds ?_
  clear hK17 h0 h1 h2 h6 h7 h9 h10 hds; intro s hs hds
  obtain ⟨h0, h1, h2, h6, h7, h9, h10, h23⟩ := facts8 hs; clear hs
  refine at_false 23 rfl h23 ?_
  refine at_seq rfl fun K18 hK18 => ?_
  (conv => arg 4; whnf)
  refine fw_region_lit rfl ?_
  simp [go_sem, opsF, opF, upF, Region.wanted, Fr.ev, Fr.put, thenE, inBlockE, Oper.semAt, yieldF, h0, h1, h2, h6, h7, h9, h10, h23, d1, d2]
  refine on_kf hK18 [(1, _), (2, _), (6, _), (7, _), (10, _), (27, _)] (fa_cons h1 (fa_cons h2 (fa_cons h6 (fa_cons h7 (fa_cons h10 (fa_cons (by simp [h0, h1, h2, h6, h7, h9, h10, h23, d1, d2] <;> rfl) fa_nil)))))) hds ?_
  clear hK18 h0 h1 h2 h6 h7 h9 h10 h23 hds; intro s hs hds
  obtain ⟨h1, h2, h6, h7, h10, h27⟩ := facts6 hs; clear hs
  refine at_false 27 rfl h27 ?_
  have hw3 := New.trans hW1 (New.trans hw2 hA3)
  have hB6c := (hB6'.frm hw2 (fun h => h)).frm hA3 (fun h => h)
  have hB7c := (hB7.frm hw2 (fun h => h)).frm hA3 (fun h => h)
  have hSc := hS.new hA3
  have hsz := hW1.size
  generalize w2.alloc (.cells #[.pointer (some ⟨sb, 0, none⟩)] 24) = w3 at *
  generalize w2.heap.size = b10 at *
  have hA4 := Frm.alloc (fun _ => False) w3 (.map #[] 0)
  have hmp := mapIs_new Try.prog 39 w3
  have hmk := run_makeMap (P := Try.prog) 57 w3
  generalize hw4 : w3.alloc (.map #[] 0) = w4 at *
  generalize hmb : w3.heap.size = mb at *
  have hA5 := Frm.alloc (fun _ => False) w4 (.cells #[.map none] 57)
  have hB11 := Blk.new w4 #[.map none] 57
  generalize hw5 : w4.alloc (.cells #[.map none] 57) = w5 at *
  generalize hb11 : w4.heap.size = b11 at *
  have y11 := hB11.cell 0
  have f11 := hB11.frozen 0
  have hset := Frm.setCell (S := fun b => b = b11) w5 ⟨b11, 0, none⟩ (.map (some mb)) rfl
  have hB11' : Blk (w5.setCell ⟨b11, 0, none⟩ (.map (some mb))) b11 #[.map (some mb)] 57 := hB11.set 0 _
  have hs4 := hA4.size
  have hn5 : New w3 (w5.setCell ⟨b11, 0, none⟩ (.map (some mb))) := Frm.trans (New.trans hA4 hA5) hset (fun b hb e => by omega)
  have hmm : ¬ mb = b11 := by
    obtain ⟨es, ck, hh, _⟩ := hmp.frm hA5 (fun h => h)
    exact obj_ne hh hB11 (by simp)
  have hMM : PM w (w5.setCell ⟨b11, 0, none⟩ (.map (some mb))) w.heap.size (w.heap.size + 1) b10 b11 mb sb (fun _ => none) low high lv :=
    ⟨hB6c.frm hn5 (fun h => h), hB7c.frm hn5 (fun h => h), hB10.frm hn5 (fun h => h), hB11', (hmp.frm hA5 (fun h => h)).frm hset hmm, hSc.new hn5, New.trans hw3 hn5, by omega, by omega, by have := hw3.size; omega, by omega, fun k hk => by have := hlo k hk; omega⟩
  refine at_skip rfl ?_
  try simp only [inBlockE, thenE]
  refine hK16 _ _ ?_
  clear hK16
  refine at_seq rfl fun K19 hK19 => ?_
  (conv => arg 4; whnf)
  refine fw_region_lit rfl ?_
  simp [go_sem, opsF, opF, upF, Region.wanted, Fr.ev, Fr.put, thenE, inBlockE, Oper.semAt, yieldF, h1, h2, h6, h7, h10, h27, hmk, hw5, hb11, y11, f11]
  refine on_kf hK19 [(1, _), (2, _), (6, _), (7, _), (10, _), (11, _)] (fa_cons h1 (fa_cons h2 (fa_cons h6 (fa_cons h7 (fa_cons h10 (fa_cons (by simp [h1, h2, h6, h7, h10, h27, hmk, hw5, hb11, y11, f11] <;> rfl) fa_nil)))))) hds ?_
  clear hK19 h1 h2 h6 h7 h10 h27 hds; intro s hs hds
  obtain ⟨h1, h2, h6, h7, h10, h11⟩ := facts6 hs; clear hs
  refine at_seq rfl fun K20 hK20 => ?_
  refine at_seq rfl fun K21 hK21 => ?_
  (conv => arg 4; whnf)
  refine fw_region_lit rfl ?_
  simp [go_sem, opsF, opF, upF, Region.wanted, Fr.ev, Fr.put, thenE, inBlockE, Oper.semAt, yieldF, h1, h2, h6, h7, h10, h11, hmk, hw5, hb11, y11, f11]
  refine on_kf hK21 [(1, _), (6, _), (7, _), (10, _), (11, _), (33, _), (34, _), (35, _)] (fa_cons h1 (fa_cons h6 (fa_cons h7 (fa_cons h10 (fa_cons h11 (fa_cons (by simp [h1, h2, h6, h7, h10, h11, hmk, hw5, hb11, y11, f11] <;> rfl) (fa_cons (by simp [h1, h2, h6, h7, h10, h11, hmk, hw5, hb11, y11, f11] <;> rfl) (fa_cons (by simp [h1, h2, h6, h7, h10, h11, hmk, hw5, hb11, y11, f11] <;> rfl) fa_nil)))))))) hds ?_
  clear hK21 h1 h2 h6 h7 h10 h11 hds; intro s hs hds
  obtain ⟨h1, h6, h7, h10, h11, h33, h34, h35⟩ := facts8 hs; clear hs
  generalize w5.setCell ⟨b11, 0, none⟩ (.map (some mb)) = w6 at *
  clear hA1 hA2 hA4 hA5 hB11 hB11' hset hmp hmk y11 f11 hB10 hB6c hB7c hSc hn5 hmm hs4 hw2 hA3 hB6 hB6' hB7 hS hW1 hw3
  generalize w.heap.size + 1 = b7 at *
  generalize hb6 : w.heap.size = b6 at *
  refine plan_pairs s w6 _ _ w b6 b7 b10 b11 mb sb low high lv (.slice pa pairs.length pc) pairs hpv hl hb ⟨0, _, by omega, by omega, by intro a b; simp [holdOf], hMM, hds, h1, h6, h7, h10, h11, h33, h34, by simpa using h35⟩ ?_
  clear h1 h6 h7 h10 h11 h33 h34 h35 hds
  clear hMM s
  rintro s w7 ⟨i, F, hi, hi0, hF, hM, hds, h1, h6, h7, h10, h11, h33, h34, h35⟩
  have hin : i = pairs.length := by omega
  rw [hin, List.take_length] at hF
  refine hK20 _ _ ?_
  clear hK20
  refine plan_rest s w w7 _ b6 b7 b10 b11 mb sb F low high lv (holdOf pairs) N g1 g2 g3 hN hlt hNm hF hM hds h1 h6 h7 h10 h11 ?_
  intro ov av w' r1 r2 r3 r4
  exact ⟨ov, av, rfl, r1, r2, r3, fun k hk => by have := r4 k hk; omega⟩
end Go.Proofs.Ytiejaopidkghdac
