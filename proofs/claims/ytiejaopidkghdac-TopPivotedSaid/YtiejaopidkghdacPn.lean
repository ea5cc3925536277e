/- The law's first part: a push, a new beginning; one call. -/
import Derived.Test.YtiejaopidkghdacPm
namespace Go.Proofs.Ytiejaopidkghdac
set_option linter.unusedSimpArgs false
set_option linter.unusedVariables false
open Go.RowKit Go.Lf

set_option maxHeartbeats 4000000 in
theorem case_push (s : Fr) (w0 w : World) (Q : Exit → Fr → World → Prop) (v3 v4 : Value) (low high : Int) (sb : Nat) (base : Int) (sv cv : Value) (n i : Int) (b18 : Nat) (x0 x1 : Int) (l : List Int) (lv : Value) (calls : List (Int × Int)) (g1 : 1 ≤ low)
    (hx1 : 0 ≤ x1 ∧ x1 ≤ 65535) (hs : SL v3 v4 low high sb base sv cv n i s) (h18 : s.t 18 = .pointer (some ⟨b18, 0, none⟩)) (h19 : s.t 19 = .int .i64 (topOf l)) (hb : Blk w b18 #[.int .u16 x0, .int .u16 x1] 31) (hL : LW w0 w sb low high base l lv sv cv calls)
    (hQ : ∀ (s : Fr) (w' : World) base' l' lv' sv', SL v3 v4 low high sb base' sv' cv n i s → LW w0 w' sb low high base' l' lv' sv' cv calls → Q .normal s w') :
    FW Try.prog 448 none (sub body3 [0,1,1,1,1,1,0,1,0,1,1,1,0,0,1,1,0,0,1,0,1,1,1,1,1,1]) Q s w := by
  obtain ⟨h3, h4, h11, h12, h13, h15, h16, h106, h107, h108, hds⟩ := hs
  have y1 := hb.cell 1
  have hwf := hL.wf
  have hb1 := hwf.b1
  have hb2 := hwf.b2
  have hlen := hwf.len
  have htop := topCase hwf
  have m1 : Int.tmod x1 70 = x1 % 70 := Int.tmod_eq_emod_of_nonneg (by omega)
  have hr70 : 0 ≤ x1 % 70 ∧ x1 % 70 < 70 := by omega
  have u1 : IntKind.u16.wrap (x1 % 70) = x1 % 70 := IntWalk.u16_in _ (by omega)
  have v1 : IntKind.i64.wrap (x1 % 70) = x1 % 70 := IntWalk.i64_in _ (by omega)
  have z1 : IntKind.i64.wrap (base + x1 % 70) = base + x1 % 70 := IntWalk.i64_in _ (by omega)
  have z2 : IntKind.i64.wrap (base + x1 % 70 - 5) = base + x1 % 70 - 5 := IntWalk.i64_in _ (by omega)
  refine at_seq rfl fun K1 hK1 => ?_
  (conv => arg 4; whnf)
  refine fw_region_lit rfl ?_
  simp [go_sem, opsF, opF, upF, Region.wanted, Fr.ev, Fr.put, thenE, inBlockE, Oper.semAt, yieldF, h3, h4, h11, h12, h13, h15, h16, h18, h19, h106, h107, h108, y1, m1, u1, v1, z1, z2]
  refine on_kf hK1 [(3, _), (4, _), (11, _), (12, _), (13, _), (15, _), (16, _), (19, _), (27, _), (106, _), (107, _), (108, _)] (fa_cons h3 (fa_cons h4 (fa_cons h11 (fa_cons h12 (fa_cons h13 (fa_cons h15 (fa_cons h16 (fa_cons h19 (fa_cons (by simp [h3, h4, h11, h12, h13, h15, h16, h18, h19, h106, h107, h108, y1, m1, u1, v1, z1, z2] <;> rfl) (fa_cons h106 (fa_cons h107 (fa_cons h108 fa_nil)))))))))))) hds ?_
  clear hK1 h3 h4 h11 h12 h13 h15 h16 h18 h19 h106 h107 h108 hds; intro s hs hds
  obtain ⟨h3, h4, h11, h12, h13, h15, h16, h19, h27, h106, h107, h108⟩ := facts12 hs; clear hs
  generalize hh : base + x1 % 70 - 5 = h at *
  rcases htop with ⟨rfl, ht⟩ | ⟨hl, ht, ht2⟩
  · rw [ht] at h19
    refine at_seq rfl fun K2 hK2 => ?_
    (conv => arg 4; whnf)
    refine fw_region_lit rfl ?_
    simp [go_sem, opsF, opF, upF, Region.wanted, Fr.ev, Fr.put, thenE, inBlockE, Oper.semAt, yieldF, h3, h4, h11, h12, h13, h15, h16, h19, h27, h106, h107, h108]
    refine on_kf hK2 [(3, _), (4, _), (11, _), (12, _), (13, _), (15, _), (16, _), (19, _), (27, _), (28, _), (106, _), (107, _), (108, _)] (fa_cons h3 (fa_cons h4 (fa_cons h11 (fa_cons h12 (fa_cons h13 (fa_cons h15 (fa_cons h16 (fa_cons h19 (fa_cons h27 (fa_cons (by simp [h3, h4, h11, h12, h13, h15, h16, h19, h27, h106, h107, h108] <;> rfl) (fa_cons h106 (fa_cons h107 (fa_cons h108 fa_nil))))))))))))) hds ?_
    clear hK2 h3 h4 h11 h12 h13 h15 h16 h19 h27 h106 h107 h108 hds; intro s hs hds
    obtain ⟨h3, h4, h11, h12, h13, h15, h16, h19, h27, h28, h106, h107, h108⟩ := facts13 hs; clear hs
    refine at_seq rfl fun K3 hK3 => ?_
    refine at_seq rfl fun K4 hK4 => ?_
    (conv => arg 4; whnf)
    refine fw_region_lit rfl ?_
    simp [go_sem, opsF, opF, upF, Region.wanted, Fr.ev, Fr.put, thenE, inBlockE, Oper.semAt, yieldF, h3, h4, h11, h12, h13, h15, h16, h19, h27, h28, h106, h107, h108]
    refine on_kf hK4 [(3, _), (4, _), (11, _), (12, _), (13, _), (15, _), (16, _), (19, _), (27, _), (28, _), (106, _), (107, _), (108, _), (197, _)] (fa_cons h3 (fa_cons h4 (fa_cons h11 (fa_cons h12 (fa_cons h13 (fa_cons h15 (fa_cons h16 (fa_cons h19 (fa_cons h27 (fa_cons h28 (fa_cons h106 (fa_cons h107 (fa_cons h108 (fa_cons (by simp [h3, h4, h11, h12, h13, h15, h16, h19, h27, h28, h106, h107, h108] <;> rfl) fa_nil)))))))))))))) hds ?_
    clear hK4 h3 h4 h11 h12 h13 h15 h16 h19 h27 h28 h106 h107 h108 hds; intro s hs hds
    obtain ⟨h3, h4, h11, h12, h13, h15, h16, h19, h27, h28, h106, h107, h108, h197⟩ := facts14 hs; clear hs
    refine at_false 197 rfl h197 ?_
    refine at_skip rfl ?_
    try simp only [inBlockE, thenE]
    refine hK3 _ _ ?_
    clear hK3
    refine at_seq rfl fun K5 hK5 => ?_
    (conv => arg 4; whnf)
    refine fw_region_lit rfl ?_
    refine ops_take 2 fun KO hKO => ?_
    simp [go_sem, opsF, opF, upF, Region.wanted, Fr.ev, Fr.put, thenE, inBlockE, Oper.semAt, yieldF, h3, h4, h11, h12, h13, h15, h16, h19, h27, h28, h106, h107, h108, h197]
    refine hKO _ _ ?_
    clear hKO
    simp only [List.drop_succ_cons, List.drop_zero]
    refine ops_call rfl rfl rfl call11 (by simp [Fr.ev, h3, h4, h11, h12, h13, h15, h16, h19, h27, h28, h106, h107, h108, h197] <;> rfl) ?_
    refine (pushh_any sb base low high h lv [] w hL.si g1 hwf).on ?_
    rintro v wc hp
    simp only [if_true] at hp
    obtain ⟨rfl, hn⟩ := hp
    simp [go_sem, opsF, opF, upF, Region.wanted, Fr.ev, Fr.put, thenE, inBlockE, Oper.semAt, yieldF, h3, h4, h11, h12, h13, h15, h16, h19, h27, h28, h106, h107, h108, h197]
    refine on_kf hK5 [(3, _), (4, _), (11, _), (12, _), (13, _), (15, _), (16, _), (106, _), (107, _), (108, _), (215, _)] (fa_cons h3 (fa_cons h4 (fa_cons h11 (fa_cons h12 (fa_cons h13 (fa_cons h15 (fa_cons h16 (fa_cons h106 (fa_cons h107 (fa_cons h108 (fa_cons (by simp [h3, h4, h11, h12, h13, h15, h16, h19, h27, h28, h106, h107, h108, h197] <;> rfl) fa_nil))))))))))) hds ?_
    clear hK5 h3 h4 h11 h12 h13 h15 h16 h19 h27 h28 h106 h107 h108 h197 hds; intro s hs hds
    obtain ⟨h3, h4, h11, h12, h13, h15, h16, h106, h107, h108, h215⟩ := facts11 hs; clear hs
    refine at_false 215 rfl h215 ?_
    refine at_skip rfl ?_
    try simp only [inBlockE, thenE]
    exact hQ s wc base [] lv sv ⟨h3, h4, h11, h12, h13, h15, h16, h106, h107, h108, hds⟩ (hL.new hn)
  · have e0 : 0 < topOf l := by omega
    refine at_seq rfl fun K6 hK6 => ?_
    (conv => arg 4; whnf)
    refine fw_region_lit rfl ?_
    simp [go_sem, opsF, opF, upF, Region.wanted, Fr.ev, Fr.put, thenE, inBlockE, Oper.semAt, yieldF, h3, h4, h11, h12, h13, h15, h16, h19, h27, h106, h107, h108, e0]
    refine on_kf hK6 [(3, _), (4, _), (11, _), (12, _), (13, _), (15, _), (16, _), (19, _), (27, _), (28, _), (106, _), (107, _), (108, _)] (fa_cons h3 (fa_cons h4 (fa_cons h11 (fa_cons h12 (fa_cons h13 (fa_cons h15 (fa_cons h16 (fa_cons h19 (fa_cons h27 (fa_cons (by simp [h3, h4, h11, h12, h13, h15, h16, h19, h27, h106, h107, h108, e0] <;> rfl) (fa_cons h106 (fa_cons h107 (fa_cons h108 fa_nil))))))))))))) hds ?_
    clear hK6 h3 h4 h11 h12 h13 h15 h16 h19 h27 h106 h107 h108 hds; intro s hs hds
    obtain ⟨h3, h4, h11, h12, h13, h15, h16, h19, h27, h28, h106, h107, h108⟩ := facts13 hs; clear hs
    refine at_seq rfl fun K7 hK7 => ?_
    refine at_seq rfl fun K8 hK8 => ?_
    (conv => arg 4; whnf)
    refine fw_region_lit rfl ?_
    simp [go_sem, opsF, opF, upF, Region.wanted, Fr.ev, Fr.put, thenE, inBlockE, Oper.semAt, yieldF, h3, h4, h11, h12, h13, h15, h16, h19, h27, h28, h106, h107, h108, e0]
    refine on_kf hK8 [(3, _), (4, _), (11, _), (12, _), (13, _), (15, _), (16, _), (19, _), (27, _), (28, _), (106, _), (107, _), (108, _), (197, _)] (fa_cons h3 (fa_cons h4 (fa_cons h11 (fa_cons h12 (fa_cons h13 (fa_cons h15 (fa_cons h16 (fa_cons h19 (fa_cons h27 (fa_cons h28 (fa_cons h106 (fa_cons h107 (fa_cons h108 (fa_cons (by simp [h3, h4, h11, h12, h13, h15, h16, h19, h27, h28, h106, h107, h108, e0] <;> rfl) fa_nil)))))))))))))) hds ?_
    clear hK8 h3 h4 h11 h12 h13 h15 h16 h19 h27 h28 h106 h107 h108 hds; intro s hs hds
    obtain ⟨h3, h4, h11, h12, h13, h15, h16, h19, h27, h28, h106, h107, h108, h197⟩ := facts14 hs; clear hs
    refine at_true 197 rfl h197 ?_
    by_cases c1 : base < h
    · by_cases c2 : h < topOf l
      · refine at_seq rfl fun K9 hK9 => ?_
        (conv => arg 4; whnf)
        refine fw_region_lit rfl ?_
        simp [go_sem, opsF, opF, upF, Region.wanted, Fr.ev, Fr.put, thenE, inBlockE, Oper.semAt, yieldF, h3, h4, h11, h12, h13, h15, h16, h19, h27, h28, h106, h107, h108, h197, c1, c2]
        refine on_kf hK9 [(3, _), (4, _), (11, _), (12, _), (13, _), (15, _), (16, _), (19, _), (27, _), (28, _), (106, _), (107, _), (108, _)] (fa_cons h3 (fa_cons h4 (fa_cons h11 (fa_cons h12 (fa_cons h13 (fa_cons h15 (fa_cons h16 (fa_cons h19 (fa_cons h27 (fa_cons (by simp [h3, h4, h11, h12, h13, h15, h16, h19, h27, h28, h106, h107, h108, h197, c1, c2] <;> rfl) (fa_cons h106 (fa_cons h107 (fa_cons h108 fa_nil))))))))))))) hds ?_
        clear hK9 h3 h4 h11 h12 h13 h15 h16 h19 h27 h28 h106 h107 h108 h197 hds; intro s hs hds
        obtain ⟨h3, h4, h11, h12, h13, h15, h16, h19, h27, h28, h106, h107, h108⟩ := facts13 hs; clear hs
        refine at_seq rfl fun K10 hK10 => ?_
        (conv => arg 4; whnf)
        refine fw_region_lit rfl ?_
        simp [go_sem, opsF, opF, upF, Region.wanted, Fr.ev, Fr.put, thenE, inBlockE, Oper.semAt, yieldF, h3, h4, h11, h12, h13, h15, h16, h19, h27, h28, h106, h107, h108, c1, c2]
        refine on_kf hK10 [(3, _), (4, _), (11, _), (12, _), (13, _), (15, _), (16, _), (27, _), (28, _), (106, _), (107, _), (108, _), (205, _)] (fa_cons h3 (fa_cons h4 (fa_cons h11 (fa_cons h12 (fa_cons h13 (fa_cons h15 (fa_cons h16 (fa_cons h27 (fa_cons h28 (fa_cons h106 (fa_cons h107 (fa_cons h108 (fa_cons (by simp [h3, h4, h11, h12, h13, h15, h16, h19, h27, h28, h106, h107, h108, c1, c2] <;> rfl) fa_nil))))))))))))) hds ?_
        clear hK10 h3 h4 h11 h12 h13 h15 h16 h19 h27 h28 h106 h107 h108 hds; intro s hs hds
        obtain ⟨h3, h4, h11, h12, h13, h15, h16, h27, h28, h106, h107, h108, h205⟩ := facts13 hs; clear hs
        refine at_true 205 rfl h205 ?_
        refine at_seq rfl fun K11 hK11 => ?_
        (conv => arg 4; whnf)
        refine fw_region_lit rfl ?_
        simp [go_sem, opsF, opF, upF, Region.wanted, Fr.ev, Fr.put, thenE, inBlockE, Oper.semAt, yieldF, h3, h4, h11, h12, h13, h15, h16, h27, h28, h106, h107, h108, h205]
        refine on_kf hK11 [(3, _), (4, _), (11, _), (12, _), (13, _), (15, _), (16, _), (27, _), (28, _), (106, _), (107, _), (108, _)] (fa_cons h3 (fa_cons h4 (fa_cons h11 (fa_cons h12 (fa_cons h13 (fa_cons h15 (fa_cons h16 (fa_cons h27 (fa_cons (by simp [h3, h4, h11, h12, h13, h15, h16, h27, h28, h106, h107, h108, h205] <;> rfl) (fa_cons h106 (fa_cons h107 (fa_cons h108 fa_nil)))))))))))) hds ?_
        clear hK11 h3 h4 h11 h12 h13 h15 h16 h27 h28 h106 h107 h108 h205 hds; intro s hs hds
        obtain ⟨h3, h4, h11, h12, h13, h15, h16, h27, h28, h106, h107, h108⟩ := facts12 hs; clear hs
        (conv => arg 4; whnf)
        refine fw_region_lit rfl ?_
        refine ops_take 1 fun KO hKO => ?_
        simp [go_sem, opsF, opF, upF, Region.wanted, Fr.ev, Fr.put, thenE, inBlockE, Oper.semAt, yieldF, h3, h4, h11, h12, h13, h15, h16, h27, h28, h106, h107, h108]
        refine hKO _ _ ?_
        clear hKO
        simp only [List.drop_succ_cons, List.drop_zero]
        refine ops_call rfl rfl rfl call8 (by simp [Fr.ev, h3, h4, h11, h12, h13, h15, h16, h27, h28, h106, h107, h108] <;> rfl) ?_
        refine (clone_any sv l w hL.rs (by omega)).on ?_
        rintro cw wa ⟨hr1, hn1, ho1⟩
        obtain ⟨v', wb, hap, hr2, hf2, ho2⟩ := hr1.grow (P := Try.prog) (S := 30) (ty := 30) Try.underlying30 info3 rfl (by decide) [.int .i64 h] rfl (by simp [Value.oneCell']) (by unfold maxLen; omega) (by omega)
        have hLa := hL.new hn1
        have hn2 : New w wb := Frm.trans hn1 hf2 (fun k hk e => by have := ho1 k e; omega)
        have hLb := hL.new hn2
        have hw0 : IntKind.i64.wrap h = h := IntWalk.i64_in _ (by omega)
        try simp only [List.drop_succ_cons, List.drop_zero]
        refine ops_take 2 fun KO hKO => ?_
        simp [go_sem, opsF, opF, upF, Region.wanted, Fr.ev, Fr.put, thenE, inBlockE, Oper.semAt, yieldF, h3, h4, h11, h12, h13, h15, h16, h27, h28, h106, h107, h108, hw0]
        refine hKO _ _ ?_
        clear hKO
        refine ops_append rfl rfl rfl (v := cw) (u := .slice (some ⟨wa.heap.size, 0, none⟩) 1 1) (by simp [Fr.ev]) (by simp [Fr.ev]) hap ?_
        try simp [go_sem, opsF, opF, upF, Region.wanted, Fr.ev, Fr.put, thenE, inBlockE, Oper.semAt, yieldF, h3, h4, h11, h12, h13, h15, h16, h27, h28, h106, h107, h108]
        have hnw : ∀ k, v'.ownBlock = some k → w.heap.size ≤ k := by
          intro k hk
          rcases ho2 k hk with h | h
          · exact ho1 k h
          · have := hn1.size; omega
        refine on_kf hK7 [(3, _), (4, _), (11, _), (12, _), (13, _), (15, _), (16, _), (27, _), (28, _), (106, _), (107, _), (108, _)] (fa_cons h3 (fa_cons h4 (fa_cons h11 (fa_cons h12 (fa_cons h13 (fa_cons h15 (fa_cons (by simp [h3, h4, h11, h12, h13, h15, h16, h27, h28, h106, h107, h108] <;> rfl) (fa_cons h27 (fa_cons h28 (fa_cons h106 (fa_cons h107 (fa_cons h108 fa_nil)))))))))))) hds ?_
        clear hK7 h3 h4 h11 h12 h13 h15 h16 h27 h28 h106 h107 h108 hds; intro s hs hds
        obtain ⟨h3, h4, h11, h12, h13, h15, h16, h27, h28, h106, h107, h108⟩ := facts12 hs; clear hs
        refine at_seq rfl fun K12 hK12 => ?_
        (conv => arg 4; whnf)
        refine fw_region_lit rfl ?_
        refine ops_take 2 fun KO hKO => ?_
        simp [go_sem, opsF, opF, upF, Region.wanted, Fr.ev, Fr.put, thenE, inBlockE, Oper.semAt, yieldF, h3, h4, h11, h12, h13, h15, h16, h27, h28, h106, h107, h108]
        refine hKO _ _ ?_
        clear hKO
        simp only [List.drop_succ_cons, List.drop_zero]
        refine ops_call rfl rfl rfl call11 (by simp [Fr.ev, h3, h4, h11, h12, h13, h15, h16, h27, h28, h106, h107, h108] <;> rfl) ?_
        refine (pushh_any sb base low high h lv l wb hLb.si g1 hwf).on ?_
        rintro v wc hp
        rw [if_neg hl, if_pos ⟨c1, c2⟩] at hp
        obtain ⟨rfl, lv', hS, hM⟩ := hp
        simp [go_sem, opsF, opF, upF, Region.wanted, Fr.ev, Fr.put, thenE, inBlockE, Oper.semAt, yieldF, h3, h4, h11, h12, h13, h15, h16, h27, h28, h106, h107, h108]
        refine on_kf hK12 [(3, _), (4, _), (11, _), (12, _), (13, _), (15, _), (16, _), (106, _), (107, _), (108, _), (215, _)] (fa_cons h3 (fa_cons h4 (fa_cons h11 (fa_cons h12 (fa_cons h13 (fa_cons h15 (fa_cons h16 (fa_cons h106 (fa_cons h107 (fa_cons h108 (fa_cons (by simp [h3, h4, h11, h12, h13, h15, h16, h27, h28, h106, h107, h108] <;> rfl) fa_nil))))))))))) hds ?_
        clear hK12 h3 h4 h11 h12 h13 h15 h16 h27 h28 h106 h107 h108 hds; intro s hs hds
        obtain ⟨h3, h4, h11, h12, h13, h15, h16, h106, h107, h108, h215⟩ := facts11 hs; clear hs
        refine at_false 215 rfl h215 ?_
        refine at_skip rfl ?_
        try simp only [inBlockE, thenE]
        refine hQ s wc base (l ++ [h]) lv' v' ⟨h3, h4, h11, h12, h13, h15, h16, h106, h107, h108, hds⟩ (hLb.turn hM hS (by simpa using hr2) ?_ ?_ (hwf.push c1 c2 hl))
        · intro k hk e
          have := hnw k hk
          have := hL.si.row.lt k e
          omega
        · intro k hk
          have := hnw k hk
          have := hL.nw.size
          omega
      · refine at_seq rfl fun K13 hK13 => ?_
        (conv => arg 4; whnf)
        refine fw_region_lit rfl ?_
        simp [go_sem, opsF, opF, upF, Region.wanted, Fr.ev, Fr.put, thenE, inBlockE, Oper.semAt, yieldF, h3, h4, h11, h12, h13, h15, h16, h19, h27, h28, h106, h107, h108, h197, c1, c2]
        refine on_kf hK13 [(3, _), (4, _), (11, _), (12, _), (13, _), (15, _), (16, _), (19, _), (27, _), (28, _), (106, _), (107, _), (108, _)] (fa_cons h3 (fa_cons h4 (fa_cons h11 (fa_cons h12 (fa_cons h13 (fa_cons h15 (fa_cons h16 (fa_cons h19 (fa_cons h27 (fa_cons (by simp [h3, h4, h11, h12, h13, h15, h16, h19, h27, h28, h106, h107, h108, h197, c1, c2] <;> rfl) (fa_cons h106 (fa_cons h107 (fa_cons h108 fa_nil))))))))))))) hds ?_
        clear hK13 h3 h4 h11 h12 h13 h15 h16 h19 h27 h28 h106 h107 h108 h197 hds; intro s hs hds
        obtain ⟨h3, h4, h11, h12, h13, h15, h16, h19, h27, h28, h106, h107, h108⟩ := facts13 hs; clear hs
        refine at_seq rfl fun K14 hK14 => ?_
        (conv => arg 4; whnf)
        refine fw_region_lit rfl ?_
        simp [go_sem, opsF, opF, upF, Region.wanted, Fr.ev, Fr.put, thenE, inBlockE, Oper.semAt, yieldF, h3, h4, h11, h12, h13, h15, h16, h19, h27, h28, h106, h107, h108, c1, c2]
        refine on_kf hK14 [(3, _), (4, _), (11, _), (12, _), (13, _), (15, _), (16, _), (27, _), (28, _), (106, _), (107, _), (108, _), (205, _)] (fa_cons h3 (fa_cons h4 (fa_cons h11 (fa_cons h12 (fa_cons h13 (fa_cons h15 (fa_cons h16 (fa_cons h27 (fa_cons h28 (fa_cons h106 (fa_cons h107 (fa_cons h108 (fa_cons (by simp [h3, h4, h11, h12, h13, h15, h16, h19, h27, h28, h106, h107, h108, c1, c2] <;> rfl) fa_nil))))))))))))) hds ?_
        clear hK14 h3 h4 h11 h12 h13 h15 h16 h19 h27 h28 h106 h107 h108 hds; intro s hs hds
        obtain ⟨h3, h4, h11, h12, h13, h15, h16, h27, h28, h106, h107, h108, h205⟩ := facts13 hs; clear hs
        refine at_false 205 rfl h205 ?_
        refine at_skip rfl ?_
        try simp only [inBlockE, thenE]
        refine hK7 _ _ ?_
        clear hK7
        refine at_seq rfl fun K15 hK15 => ?_
        (conv => arg 4; whnf)
        refine fw_region_lit rfl ?_
        refine ops_take 2 fun KO hKO => ?_
        simp [go_sem, opsF, opF, upF, Region.wanted, Fr.ev, Fr.put, thenE, inBlockE, Oper.semAt, yieldF, h3, h4, h11, h12, h13, h15, h16, h27, h28, h106, h107, h108, h205]
        refine hKO _ _ ?_
        clear hKO
        simp only [List.drop_succ_cons, List.drop_zero]
        refine ops_call rfl rfl rfl call11 (by simp [Fr.ev, h3, h4, h11, h12, h13, h15, h16, h27, h28, h106, h107, h108, h205] <;> rfl) ?_
        refine (pushh_any sb base low high h lv l w hL.si g1 hwf).on ?_
        rintro v wc hp
        rw [if_neg hl, if_neg (by omega)] at hp
        obtain ⟨rfl, hn⟩ := hp
        simp [go_sem, opsF, opF, upF, Region.wanted, Fr.ev, Fr.put, thenE, inBlockE, Oper.semAt, yieldF, h3, h4, h11, h12, h13, h15, h16, h27, h28, h106, h107, h108, h205]
        refine on_kf hK15 [(3, _), (4, _), (11, _), (12, _), (13, _), (15, _), (16, _), (106, _), (107, _), (108, _), (215, _)] (fa_cons h3 (fa_cons h4 (fa_cons h11 (fa_cons h12 (fa_cons h13 (fa_cons h15 (fa_cons h16 (fa_cons h106 (fa_cons h107 (fa_cons h108 (fa_cons (by simp [h3, h4, h11, h12, h13, h15, h16, h27, h28, h106, h107, h108, h205] <;> rfl) fa_nil))))))))))) hds ?_
        clear hK15 h3 h4 h11 h12 h13 h15 h16 h27 h28 h106 h107 h108 h205 hds; intro s hs hds
        obtain ⟨h3, h4, h11, h12, h13, h15, h16, h106, h107, h108, h215⟩ := facts11 hs; clear hs
        refine at_false 215 rfl h215 ?_
        refine at_skip rfl ?_
        try simp only [inBlockE, thenE]
        exact hQ s wc base l lv sv ⟨h3, h4, h11, h12, h13, h15, h16, h106, h107, h108, hds⟩ (hL.new hn)
    · refine at_seq rfl fun K16 hK16 => ?_
      (conv => arg 4; whnf)
      refine fw_region_lit rfl ?_
      simp [go_sem, opsF, opF, upF, Region.wanted, Fr.ev, Fr.put, thenE, inBlockE, Oper.semAt, yieldF, h3, h4, h11, h12, h13, h15, h16, h19, h27, h28, h106, h107, h108, h197, c1]
      refine on_kf hK16 [(3, _), (4, _), (11, _), (12, _), (13, _), (15, _), (16, _), (19, _), (27, _), (28, _), (106, _), (107, _), (108, _)] (fa_cons h3 (fa_cons h4 (fa_cons h11 (fa_cons h12 (fa_cons h13 (fa_cons h15 (fa_cons h16 (fa_cons h19 (fa_cons h27 (fa_cons (by simp [h3, h4, h11, h12, h13, h15, h16, h19, h27, h28, h106, h107, h108, h197, c1] <;> rfl) (fa_cons h106 (fa_cons h107 (fa_cons h108 fa_nil))))))))))))) hds ?_
      clear hK16 h3 h4 h11 h12 h13 h15 h16 h19 h27 h28 h106 h107 h108 h197 hds; intro s hs hds
      obtain ⟨h3, h4, h11, h12, h13, h15, h16, h19, h27, h28, h106, h107, h108⟩ := facts13 hs; clear hs
      refine at_seq rfl fun K17 hK17 => ?_
      (conv => arg 4; whnf)
      refine fw_region_lit rfl ?_
      simp [go_sem, opsF, opF, upF, Region.wanted, Fr.ev, Fr.put, thenE, inBlockE, Oper.semAt, yieldF, h3, h4, h11, h12, h13, h15, h16, h19, h27, h28, h106, h107, h108, c1]
      refine on_kf hK17 [(3, _), (4, _), (11, _), (12, _), (13, _), (15, _), (16, _), (27, _), (28, _), (106, _), (107, _), (108, _), (205, _)] (fa_cons h3 (fa_cons h4 (fa_cons h11 (fa_cons h12 (fa_cons h13 (fa_cons h15 (fa_cons h16 (fa_cons h27 (fa_cons h28 (fa_cons h106 (fa_cons h107 (fa_cons h108 (fa_cons (by simp [h3, h4, h11, h12, h13, h15, h16, h19, h27, h28, h106, h107, h108, c1] <;> rfl) fa_nil))))))))))))) hds ?_
      clear hK17 h3 h4 h11 h12 h13 h15 h16 h19 h27 h28 h106 h107 h108 hds; intro s hs hds
      obtain ⟨h3, h4, h11, h12, h13, h15, h16, h27, h28, h106, h107, h108, h205⟩ := facts13 hs; clear hs
      refine at_false 205 rfl h205 ?_
      refine at_skip rfl ?_
      try simp only [inBlockE, thenE]
      refine hK7 _ _ ?_
      clear hK7
      refine at_seq rfl fun K18 hK18 => ?_
      (conv => arg 4; whnf)
      refine fw_region_lit rfl ?_
      refine ops_take 2 fun KO hKO => ?_
      simp [go_sem, opsF, opF, upF, Region.wanted, Fr.ev, Fr.put, thenE, inBlockE, Oper.semAt, yieldF, h3, h4, h11, h12, h13, h15, h16, h27, h28, h106, h107, h108, h205]
      refine hKO _ _ ?_
      clear hKO
      simp only [List.drop_succ_cons, List.drop_zero]
      refine ops_call rfl rfl rfl call11 (by simp [Fr.ev, h3, h4, h11, h12, h13, h15, h16, h27, h28, h106, h107, h108, h205] <;> rfl) ?_
      refine (pushh_any sb base low high h lv l w hL.si g1 hwf).on ?_
      rintro v wc hp
      rw [if_neg hl, if_neg (by omega)] at hp
      obtain ⟨rfl, hn⟩ := hp
      simp [go_sem, opsF, opF, upF, Region.wanted, Fr.ev, Fr.put, thenE, inBlockE, Oper.semAt, yieldF, h3, h4, h11, h12, h13, h15, h16, h27, h28, h106, h107, h108, h205]
      refine on_kf hK18 [(3, _), (4, _), (11, _), (12, _), (13, _), (15, _), (16, _), (106, _), (107, _), (108, _), (215, _)] (fa_cons h3 (fa_cons h4 (fa_cons h11 (fa_cons h12 (fa_cons h13 (fa_cons h15 (fa_cons h16 (fa_cons h106 (fa_cons h107 (fa_cons h108 (fa_cons (by simp [h3, h4, h11, h12, h13, h15, h16, h27, h28, h106, h107, h108, h205] <;> rfl) fa_nil))))))))))) hds ?_
      clear hK18 h3 h4 h11 h12 h13 h15 h16 h27 h28 h106 h107 h108 h205 hds; intro s hs hds
      obtain ⟨h3, h4, h11, h12, h13, h15, h16, h106, h107, h108, h215⟩ := facts11 hs; clear hs
      refine at_false 215 rfl h215 ?_
      refine at_skip rfl ?_
      try simp only [inBlockE, thenE]
      exact hQ s wc base l lv sv ⟨h3, h4, h11, h12, h13, h15, h16, h106, h107, h108, hds⟩ (hL.new hn)

set_option maxHeartbeats 4000000 in
theorem case_reset (s : Fr) (w0 w : World) (Q : Exit → Fr → World → Prop) (v3 v4 : Value) (low high : Int) (sb : Nat) (base : Int) (sv cv : Value) (n i : Int) (b18 : Nat) (x0 x1 : Int) (l : List Int) (lv : Value) (calls : List (Int × Int)) (g1 : 1 ≤ low) (g2 : low < high) (g3 : high ≤ 400)
    (hx1 : 0 ≤ x1 ∧ x1 ≤ 65535) (hs : SL v3 v4 low high sb base sv cv n i s) (h18 : s.t 18 = .pointer (some ⟨b18, 0, none⟩)) (h19 : s.t 19 = .int .i64 (topOf l)) (hb : Blk w b18 #[.int .u16 x0, .int .u16 x1] 31) (hL : LW w0 w sb low high base l lv sv cv calls)
    (hQ : ∀ (s : Fr) (w' : World) base' l' lv' sv', SL v3 v4 low high sb base' sv' cv n i s → LW w0 w' sb low high base' l' lv' sv' cv calls → Q .normal s w' ∧ Q (.exit 2) s w') :
    FW Try.prog 448 none (sub body3 [1,1,1,1,1,1,0,1,0,1,1,1,0,0,1,1,0,0,1,0,1,1,1,1,1,1]) Q s w := by
  obtain ⟨h3, h4, h11, h12, h13, h15, h16, h106, h107, h108, hds⟩ := hs
  have y1 := hb.cell 1
  have m2 : Int.tmod x1 8 = x1 % 8 := Int.tmod_eq_emod_of_nonneg (by omega)
  have u2 : IntKind.u16.wrap (x1 % 8) = x1 % 8 := IntWalk.u16_in _ (by omega)
  by_cases c : 0 < x1 % 8
  · refine at_seq rfl fun K19 hK19 => ?_
    refine at_seq rfl fun K20 hK20 => ?_
    (conv => arg 4; whnf)
    refine fw_region_lit rfl ?_
    simp [go_sem, opsF, opF, upF, Region.wanted, Fr.ev, Fr.put, thenE, inBlockE, Oper.semAt, yieldF, h3, h4, h11, h12, h13, h15, h16, h18, h106, h107, h108, y1, m2, u2, c]
    refine on_kf hK20 [(3, _), (4, _), (11, _), (12, _), (13, _), (15, _), (16, _), (106, _), (107, _), (108, _), (127, _)] (fa_cons h3 (fa_cons h4 (fa_cons h11 (fa_cons h12 (fa_cons h13 (fa_cons h15 (fa_cons h16 (fa_cons h106 (fa_cons h107 (fa_cons h108 (fa_cons (by simp [h3, h4, h11, h12, h13, h15, h16, h18, h106, h107, h108, y1, m2, u2, c] <;> rfl) fa_nil))))))))))) hds ?_
    clear hK20 h3 h4 h11 h12 h13 h15 h16 h18 h106 h107 h108 hds; intro s hs hds
    obtain ⟨h3, h4, h11, h12, h13, h15, h16, h106, h107, h108, h127⟩ := facts11 hs; clear hs
    refine at_true 127 rfl h127 ?_
    refine at_exit 2 rfl ?_
    simp only [thenE]
    exact (hQ s w base l lv sv ⟨h3, h4, h11, h12, h13, h15, h16, h106, h107, h108, hds⟩ hL).2
  · have hA := Frm.alloc (fun _ => False) w (.cells #[.int .i64 high] 3)
    have hrow := Row.new w [.int .i64 high] 3 1 1 rfl (by unfold maxLen; omega)
    have hLa := hL.new hA
    refine at_seq rfl fun K21 hK21 => ?_
    refine at_seq rfl fun K22 hK22 => ?_
    (conv => arg 4; whnf)
    refine fw_region_lit rfl ?_
    simp [go_sem, opsF, opF, upF, Region.wanted, Fr.ev, Fr.put, thenE, inBlockE, Oper.semAt, yieldF, h3, h4, h11, h12, h13, h15, h16, h18, h106, h107, h108, y1, m2, u2, c]
    refine on_kf hK22 [(3, _), (4, _), (11, _), (12, _), (13, _), (15, _), (16, _), (106, _), (107, _), (108, _), (127, _)] (fa_cons h3 (fa_cons h4 (fa_cons h11 (fa_cons h12 (fa_cons h13 (fa_cons h15 (fa_cons h16 (fa_cons h106 (fa_cons h107 (fa_cons h108 (fa_cons (by simp [h3, h4, h11, h12, h13, h15, h16, h18, h106, h107, h108, y1, m2, u2, c] <;> rfl) fa_nil))))))))))) hds ?_
    clear hK22 h3 h4 h11 h12 h13 h15 h16 h18 h106 h107 h108 hds; intro s hs hds
    obtain ⟨h3, h4, h11, h12, h13, h15, h16, h106, h107, h108, h127⟩ := facts11 hs; clear hs
    refine at_false 127 rfl h127 ?_
    refine at_skip rfl ?_
    try simp only [inBlockE, thenE]
    refine hK21 _ _ ?_
    clear hK21
    refine at_seq rfl fun K23 hK23 => ?_
    (conv => arg 4; whnf)
    refine fw_region_lit rfl ?_
    simp [go_sem, opsF, opF, upF, Region.wanted, Fr.ev, Fr.put, thenE, inBlockE, Oper.semAt, yieldF, h3, h4, h11, h12, h13, h15, h16, h106, h107, h108, h127]
    refine on_kf hK23 [(3, _), (4, _), (11, _), (12, _), (13, _), (15, _), (16, _), (106, _), (107, _), (108, _)] (fa_cons h3 (fa_cons h4 (fa_cons h11 (fa_cons h12 (fa_cons h13 (fa_cons (by simp [h3, h4, h11, h12, h13, h15, h16, h106, h107, h108, h127] <;> rfl) (fa_cons (by simp [h3, h4, h11, h12, h13, h15, h16, h106, h107, h108, h127] <;> rfl) (fa_cons h106 (fa_cons h107 (fa_cons h108 fa_nil)))))))))) hds ?_
    clear hK23 h3 h4 h11 h12 h13 h15 h16 h106 h107 h108 h127 hds; intro s hs hds
    obtain ⟨h3, h4, h11, h12, h13, h15, h16, h106, h107, h108⟩ := facts10 hs; clear hs
    have hlt := hL.si.row.lt
    have hsz := hL.nw.size
    generalize w.alloc (.cells #[.int .i64 high] 3) = w1 at *
    generalize w.heap.size = g at *
    (conv => arg 4; whnf)
    refine fw_region_lit rfl ?_
    refine ops_take 1 fun KO hKO => ?_
    simp [go_sem, opsF, opF, upF, Region.wanted, Fr.ev, Fr.put, thenE, inBlockE, Oper.semAt, yieldF, h3, h4, h11, h12, h13, h15, h16, h106, h107, h108]
    refine hKO _ _ ?_
    clear hKO
    simp only [List.drop_succ_cons, List.drop_zero]
    refine ops_call rfl rfl rfl call12 (by simp [Fr.ev, h3, h4, h11, h12, h13, h15, h16, h106, h107, h108] <;> rfl) ?_
    refine (reset_any sb base low high lv l w1 hLa.si g1).on ?_
    rintro _ wc ⟨rfl, lv', hS, hM⟩
    simp [go_sem, opsF, opF, upF, Region.wanted, Fr.ev, Fr.put, thenE, inBlockE, Oper.semAt, yieldF, h3, h4, h11, h12, h13, h15, h16, h106, h107, h108]
    refine And.left (hQ _ wc low [high] lv' (.slice (some ⟨g, 0, none⟩) 1 1) ?_ (hLa.turn hM hS hrow ?_ ?_ ⟨g1, by omega, by simp, fun x hx => by simp at hx; omega⟩))
    · exact ⟨by simp [h3], by simp [h4], by simp [h11], by simp [h12], by simp [h13], by simp [h15], by simp [h16], by simp [h106], by simp [h107], by simp [h108], hds⟩
    · intro k hk e
      cases hk
      have : g < g := hlt _ e
      omega
    · intro k hk
      cases hk
      exact hsz

set_option maxHeartbeats 4000000 in
theorem seg14 (s : Fr) (w0 w : World) (Q : Exit → Fr → World → Prop) (v3 v4 : Value) (low high : Int) (sb : Nat) (base : Int) (sv cv : Value) (n i : Int) (b18 : Nat) (x0 x1 : Int) (l : List Int) (lv : Value) (calls : List (Int × Int))
    (g1 : 1 ≤ low) (g2 : low < high) (g3 : high ≤ 400) (hx0 : 0 ≤ x0 ∧ x0 ≤ 65535) (hx1 : 0 ≤ x1 ∧ x1 ≤ 65535)
    (hs : SL v3 v4 low high sb base sv cv n i s) (h18 : s.t 18 = .pointer (some ⟨b18, 0, none⟩)) (h19 : s.t 19 = .int .i64 (topOf l)) (hb : Blk w b18 #[.int .u16 x0, .int .u16 x1] 31) (hL : LW w0 w sb low high base l lv sv cv calls)
    (hK : ∀ (s : Fr) (w' : World) base' l' lv' sv', SL v3 v4 low high sb base' sv' cv n i s → LW w0 w' sb low high base' l' lv' sv' cv calls → FW Try.prog 448 none (sub body3 [1,1,1,1,0,0,1,1,0,0,1,0,1,1,1,1,1,1]) Q s w') :
    FW Try.prog 448 none (sub body3 [1,1,1,0,0,1,1,0,0,1,0,1,1,1,1,1,1]) Q s w := by
  obtain ⟨h3, h4, h11, h12, h13, h15, h16, h106, h107, h108, hds⟩ := hs
  have y0 := hb.cell 0
  have m0 : Int.tmod x0 5 = x0 % 5 := Int.tmod_eq_emod_of_nonneg (by omega)
  have u0 : IntKind.u16.wrap (x0 % 5) = x0 % 5 := IntWalk.u16_in _ (by omega)
  have hr5 : 0 ≤ x0 % 5 ∧ x0 % 5 < 5 := by omega
  refine at_seq rfl fun K24 hK24 => ?_
  refine at_seq rfl fun K25 hK25 => ?_
  (conv => arg 4; whnf)
  refine fw_region_lit rfl ?_
  simp [go_sem, opsF, opF, upF, Region.wanted, Fr.ev, Fr.put, thenE, inBlockE, Oper.semAt, yieldF, h3, h4, h11, h12, h13, h15, h16, h18, h19, h106, h107, h108, y0, m0, u0]
  refine on_kf hK25 [(3, _), (4, _), (11, _), (12, _), (13, _), (15, _), (16, _), (18, _), (19, _), (106, _), (107, _), (108, _), (123, _)] (fa_cons h3 (fa_cons h4 (fa_cons h11 (fa_cons h12 (fa_cons h13 (fa_cons h15 (fa_cons h16 (fa_cons h18 (fa_cons h19 (fa_cons h106 (fa_cons h107 (fa_cons h108 (fa_cons (by simp [h3, h4, h11, h12, h13, h15, h16, h18, h19, h106, h107, h108, y0, m0, u0] <;> rfl) fa_nil))))))))))))) hds ?_
  clear hK25 h3 h4 h11 h12 h13 h15 h16 h18 h19 h106 h107 h108 hds; intro s hs hds
  obtain ⟨h3, h4, h11, h12, h13, h15, h16, h18, h19, h106, h107, h108, h123⟩ := facts13 hs; clear hs
  generalize hx5 : x0 % 5 = r at *
  have hcase : r = 0 ∨ r = 1 ∨ r = 2 ∨ r = 3 ∨ r = 4 := by omega
  rcases hcase with rfl | rfl | rfl | rfl | rfl
  · refine at_block 2 rfl ?_
    refine at_seq rfl fun K26 hK26 => ?_
    refine at_seq rfl fun K27 hK27 => ?_
    (conv => arg 4; whnf)
    refine fw_region_lit rfl ?_
    simp [go_sem, opsF, opF, upF, Region.wanted, Fr.ev, Fr.put, thenE, inBlockE, Oper.semAt, yieldF, h3, h4, h11, h12, h13, h15, h16, h18, h19, h106, h107, h108, h123]
    refine on_kf hK27 [(3, _), (4, _), (11, _), (12, _), (13, _), (15, _), (16, _), (18, _), (19, _), (106, _), (107, _), (108, _), (123, _), (133, _)] (fa_cons h3 (fa_cons h4 (fa_cons h11 (fa_cons h12 (fa_cons h13 (fa_cons h15 (fa_cons h16 (fa_cons h18 (fa_cons h19 (fa_cons h106 (fa_cons h107 (fa_cons h108 (fa_cons h123 (fa_cons (by simp [h3, h4, h11, h12, h13, h15, h16, h18, h19, h106, h107, h108, h123] <;> rfl) fa_nil)))))))))))))) hds ?_
    clear hK27 h3 h4 h11 h12 h13 h15 h16 h18 h19 h106 h107 h108 h123 hds; intro s hs hds
    obtain ⟨h3, h4, h11, h12, h13, h15, h16, h18, h19, h106, h107, h108, h123, h133⟩ := facts14 hs; clear hs
    refine at_true 133 rfl h133 ?_
    refine at_skip rfl ?_
    try simp only [inBlockE, thenE]
    refine hK26 _ _ ?_
    clear hK26
    refine at_true 133 rfl h133 ?_
    refine case_split s w0 w _ v3 v4 low high sb base sv cv n i l lv calls g1 ⟨h3, h4, h11, h12, h13, h15, h16, h106, h107, h108, hds⟩ h19 hL ?_
    rintro s w' base' l' lv' sv' q1 q2
    simp only [inBlockE, thenE]
    exact hK24 s w' (hK s w' base' l' lv' sv' q1 q2)
  · refine at_block 2 rfl ?_
    refine at_seq rfl fun K28 hK28 => ?_
    refine at_seq rfl fun K29 hK29 => ?_
    (conv => arg 4; whnf)
    refine fw_region_lit rfl ?_
    simp [go_sem, opsF, opF, upF, Region.wanted, Fr.ev, Fr.put, thenE, inBlockE, Oper.semAt, yieldF, h3, h4, h11, h12, h13, h15, h16, h18, h19, h106, h107, h108, h123]
    refine on_kf hK29 [(3, _), (4, _), (11, _), (12, _), (13, _), (15, _), (16, _), (18, _), (19, _), (106, _), (107, _), (108, _), (123, _), (133, _)] (fa_cons h3 (fa_cons h4 (fa_cons h11 (fa_cons h12 (fa_cons h13 (fa_cons h15 (fa_cons h16 (fa_cons h18 (fa_cons h19 (fa_cons h106 (fa_cons h107 (fa_cons h108 (fa_cons h123 (fa_cons (by simp [h3, h4, h11, h12, h13, h15, h16, h18, h19, h106, h107, h108, h123] <;> rfl) fa_nil)))))))))))))) hds ?_
    clear hK29 h3 h4 h11 h12 h13 h15 h16 h18 h19 h106 h107 h108 h123 hds; intro s hs hds
    obtain ⟨h3, h4, h11, h12, h13, h15, h16, h18, h19, h106, h107, h108, h123, h133⟩ := facts14 hs; clear hs
    refine at_false 133 rfl h133 ?_
    (conv => arg 4; whnf)
    refine fw_region_lit rfl ?_
    simp [go_sem, opsF, opF, upF, Region.wanted, Fr.ev, Fr.put, thenE, inBlockE, Oper.semAt, yieldF, h3, h4, h11, h12, h13, h15, h16, h18, h19, h106, h107, h108, h123, h133]
    refine on_kf hK28 [(3, _), (4, _), (11, _), (12, _), (13, _), (15, _), (16, _), (18, _), (19, _), (106, _), (107, _), (108, _), (123, _), (133, _)] (fa_cons h3 (fa_cons h4 (fa_cons h11 (fa_cons h12 (fa_cons h13 (fa_cons h15 (fa_cons h16 (fa_cons h18 (fa_cons h19 (fa_cons h106 (fa_cons h107 (fa_cons h108 (fa_cons h123 (fa_cons (by simp [h3, h4, h11, h12, h13, h15, h16, h18, h19, h106, h107, h108, h123, h133] <;> rfl) fa_nil)))))))))))))) hds ?_
    clear hK28 h3 h4 h11 h12 h13 h15 h16 h18 h19 h106 h107 h108 h123 h133 hds; intro s hs hds
    obtain ⟨h3, h4, h11, h12, h13, h15, h16, h18, h19, h106, h107, h108, h123, h133⟩ := facts14 hs; clear hs
    refine at_false 133 rfl h133 ?_
    refine at_seq rfl fun K30 hK30 => ?_
    (conv => arg 4; whnf)
    refine fw_region_lit rfl ?_
    simp [go_sem, opsF, opF, upF, Region.wanted, Fr.ev, Fr.put, thenE, inBlockE, Oper.semAt, yieldF, h3, h4, h11, h12, h13, h15, h16, h18, h19, h106, h107, h108, h123, h133]
    refine on_kf hK30 [(3, _), (4, _), (11, _), (12, _), (13, _), (15, _), (16, _), (18, _), (19, _), (106, _), (107, _), (108, _), (123, _), (164, _)] (fa_cons h3 (fa_cons h4 (fa_cons h11 (fa_cons h12 (fa_cons h13 (fa_cons h15 (fa_cons h16 (fa_cons h18 (fa_cons h19 (fa_cons h106 (fa_cons h107 (fa_cons h108 (fa_cons h123 (fa_cons (by simp [h3, h4, h11, h12, h13, h15, h16, h18, h19, h106, h107, h108, h123, h133] <;> rfl) fa_nil)))))))))))))) hds ?_
    clear hK30 h3 h4 h11 h12 h13 h15 h16 h18 h19 h106 h107 h108 h123 h133 hds; intro s hs hds
    obtain ⟨h3, h4, h11, h12, h13, h15, h16, h18, h19, h106, h107, h108, h123, h164⟩ := facts14 hs; clear hs
    refine at_true 164 rfl h164 ?_
    refine case_pop s w0 w _ v3 v4 low high sb base sv cv n i l lv calls g1 ⟨h3, h4, h11, h12, h13, h15, h16, h106, h107, h108, hds⟩ h19 hL ?_
    rintro s w' base' l' lv' sv' q1 q2
    simp only [inBlockE, thenE]
    exact hK24 s w' (hK s w' base' l' lv' sv' q1 q2)
  · refine at_block 2 rfl ?_
    refine at_seq rfl fun K31 hK31 => ?_
    refine at_seq rfl fun K32 hK32 => ?_
    (conv => arg 4; whnf)
    refine fw_region_lit rfl ?_
    simp [go_sem, opsF, opF, upF, Region.wanted, Fr.ev, Fr.put, thenE, inBlockE, Oper.semAt, yieldF, h3, h4, h11, h12, h13, h15, h16, h18, h19, h106, h107, h108, h123]
    refine on_kf hK32 [(3, _), (4, _), (11, _), (12, _), (13, _), (15, _), (16, _), (18, _), (19, _), (106, _), (107, _), (108, _), (123, _), (133, _)] (fa_cons h3 (fa_cons h4 (fa_cons h11 (fa_cons h12 (fa_cons h13 (fa_cons h15 (fa_cons h16 (fa_cons h18 (fa_cons h19 (fa_cons h106 (fa_cons h107 (fa_cons h108 (fa_cons h123 (fa_cons (by simp [h3, h4, h11, h12, h13, h15, h16, h18, h19, h106, h107, h108, h123] <;> rfl) fa_nil)))))))))))))) hds ?_
    clear hK32 h3 h4 h11 h12 h13 h15 h16 h18 h19 h106 h107 h108 h123 hds; intro s hs hds
    obtain ⟨h3, h4, h11, h12, h13, h15, h16, h18, h19, h106, h107, h108, h123, h133⟩ := facts14 hs; clear hs
    refine at_false 133 rfl h133 ?_
    (conv => arg 4; whnf)
    refine fw_region_lit rfl ?_
    simp [go_sem, opsF, opF, upF, Region.wanted, Fr.ev, Fr.put, thenE, inBlockE, Oper.semAt, yieldF, h3, h4, h11, h12, h13, h15, h16, h18, h19, h106, h107, h108, h123, h133]
    refine on_kf hK31 [(3, _), (4, _), (11, _), (12, _), (13, _), (15, _), (16, _), (18, _), (19, _), (106, _), (107, _), (108, _), (123, _), (133, _)] (fa_cons h3 (fa_cons h4 (fa_cons h11 (fa_cons h12 (fa_cons h13 (fa_cons h15 (fa_cons h16 (fa_cons h18 (fa_cons h19 (fa_cons h106 (fa_cons h107 (fa_cons h108 (fa_cons h123 (fa_cons (by simp [h3, h4, h11, h12, h13, h15, h16, h18, h19, h106, h107, h108, h123, h133] <;> rfl) fa_nil)))))))))))))) hds ?_
    clear hK31 h3 h4 h11 h12 h13 h15 h16 h18 h19 h106 h107 h108 h123 h133 hds; intro s hs hds
    obtain ⟨h3, h4, h11, h12, h13, h15, h16, h18, h19, h106, h107, h108, h123, h133⟩ := facts14 hs; clear hs
    refine at_false 133 rfl h133 ?_
    refine at_seq rfl fun K33 hK33 => ?_
    (conv => arg 4; whnf)
    refine fw_region_lit rfl ?_
    simp [go_sem, opsF, opF, upF, Region.wanted, Fr.ev, Fr.put, thenE, inBlockE, Oper.semAt, yieldF, h3, h4, h11, h12, h13, h15, h16, h18, h19, h106, h107, h108, h123, h133]
    refine on_kf hK33 [(3, _), (4, _), (11, _), (12, _), (13, _), (15, _), (16, _), (18, _), (19, _), (106, _), (107, _), (108, _), (123, _), (164, _)] (fa_cons h3 (fa_cons h4 (fa_cons h11 (fa_cons h12 (fa_cons h13 (fa_cons h15 (fa_cons h16 (fa_cons h18 (fa_cons h19 (fa_cons h106 (fa_cons h107 (fa_cons h108 (fa_cons h123 (fa_cons (by simp [h3, h4, h11, h12, h13, h15, h16, h18, h19, h106, h107, h108, h123, h133] <;> rfl) fa_nil)))))))))))))) hds ?_
    clear hK33 h3 h4 h11 h12 h13 h15 h16 h18 h19 h106 h107 h108 h123 h133 hds; intro s hs hds
    obtain ⟨h3, h4, h11, h12, h13, h15, h16, h18, h19, h106, h107, h108, h123, h164⟩ := facts14 hs; clear hs
    refine at_false 164 rfl h164 ?_
    refine at_seq rfl fun K34 hK34 => ?_
    (conv => arg 4; whnf)
    refine fw_region_lit rfl ?_
    simp [go_sem, opsF, opF, upF, Region.wanted, Fr.ev, Fr.put, thenE, inBlockE, Oper.semAt, yieldF, h3, h4, h11, h12, h13, h15, h16, h18, h19, h106, h107, h108, h123, h164]
    refine on_kf hK34 [(3, _), (4, _), (11, _), (12, _), (13, _), (15, _), (16, _), (18, _), (19, _), (106, _), (107, _), (108, _), (187, _)] (fa_cons h3 (fa_cons h4 (fa_cons h11 (fa_cons h12 (fa_cons h13 (fa_cons h15 (fa_cons h16 (fa_cons h18 (fa_cons h19 (fa_cons h106 (fa_cons h107 (fa_cons h108 (fa_cons (by simp [h3, h4, h11, h12, h13, h15, h16, h18, h19, h106, h107, h108, h123, h164] <;> rfl) fa_nil))))))))))))) hds ?_
    clear hK34 h3 h4 h11 h12 h13 h15 h16 h18 h19 h106 h107 h108 h123 h164 hds; intro s hs hds
    obtain ⟨h3, h4, h11, h12, h13, h15, h16, h18, h19, h106, h107, h108, h187⟩ := facts13 hs; clear hs
    refine at_true 187 rfl h187 ?_
    refine case_push s w0 w _ v3 v4 low high sb base sv cv n i b18 x0 x1 l lv calls g1 hx1 ⟨h3, h4, h11, h12, h13, h15, h16, h106, h107, h108, hds⟩ h18 h19 hb hL ?_
    rintro s w' base' l' lv' sv' q1 q2
    simp only [inBlockE, thenE]
    exact hK24 s w' (hK s w' base' l' lv' sv' q1 q2)
  · refine at_block 2 rfl ?_
    refine at_seq rfl fun K35 hK35 => ?_
    refine at_seq rfl fun K36 hK36 => ?_
    (conv => arg 4; whnf)
    refine fw_region_lit rfl ?_
    simp [go_sem, opsF, opF, upF, Region.wanted, Fr.ev, Fr.put, thenE, inBlockE, Oper.semAt, yieldF, h3, h4, h11, h12, h13, h15, h16, h18, h19, h106, h107, h108, h123]
    refine on_kf hK36 [(3, _), (4, _), (11, _), (12, _), (13, _), (15, _), (16, _), (18, _), (19, _), (106, _), (107, _), (108, _), (123, _), (133, _)] (fa_cons h3 (fa_cons h4 (fa_cons h11 (fa_cons h12 (fa_cons h13 (fa_cons h15 (fa_cons h16 (fa_cons h18 (fa_cons h19 (fa_cons h106 (fa_cons h107 (fa_cons h108 (fa_cons h123 (fa_cons (by simp [h3, h4, h11, h12, h13, h15, h16, h18, h19, h106, h107, h108, h123] <;> rfl) fa_nil)))))))))))))) hds ?_
    clear hK36 h3 h4 h11 h12 h13 h15 h16 h18 h19 h106 h107 h108 h123 hds; intro s hs hds
    obtain ⟨h3, h4, h11, h12, h13, h15, h16, h18, h19, h106, h107, h108, h123, h133⟩ := facts14 hs; clear hs
    refine at_false 133 rfl h133 ?_
    (conv => arg 4; whnf)
    refine fw_region_lit rfl ?_
    simp [go_sem, opsF, opF, upF, Region.wanted, Fr.ev, Fr.put, thenE, inBlockE, Oper.semAt, yieldF, h3, h4, h11, h12, h13, h15, h16, h18, h19, h106, h107, h108, h123, h133]
    refine on_kf hK35 [(3, _), (4, _), (11, _), (12, _), (13, _), (15, _), (16, _), (18, _), (19, _), (106, _), (107, _), (108, _), (123, _), (133, _)] (fa_cons h3 (fa_cons h4 (fa_cons h11 (fa_cons h12 (fa_cons h13 (fa_cons h15 (fa_cons h16 (fa_cons h18 (fa_cons h19 (fa_cons h106 (fa_cons h107 (fa_cons h108 (fa_cons h123 (fa_cons (by simp [h3, h4, h11, h12, h13, h15, h16, h18, h19, h106, h107, h108, h123, h133] <;> rfl) fa_nil)))))))))))))) hds ?_
    clear hK35 h3 h4 h11 h12 h13 h15 h16 h18 h19 h106 h107 h108 h123 h133 hds; intro s hs hds
    obtain ⟨h3, h4, h11, h12, h13, h15, h16, h18, h19, h106, h107, h108, h123, h133⟩ := facts14 hs; clear hs
    refine at_true 133 rfl h133 ?_
    refine case_split s w0 w _ v3 v4 low high sb base sv cv n i l lv calls g1 ⟨h3, h4, h11, h12, h13, h15, h16, h106, h107, h108, hds⟩ h19 hL ?_
    rintro s w' base' l' lv' sv' q1 q2
    simp only [inBlockE, thenE]
    exact hK24 s w' (hK s w' base' l' lv' sv' q1 q2)
  · refine at_block 2 rfl ?_
    refine at_seq rfl fun K37 hK37 => ?_
    refine at_seq rfl fun K38 hK38 => ?_
    (conv => arg 4; whnf)
    refine fw_region_lit rfl ?_
    simp [go_sem, opsF, opF, upF, Region.wanted, Fr.ev, Fr.put, thenE, inBlockE, Oper.semAt, yieldF, h3, h4, h11, h12, h13, h15, h16, h18, h19, h106, h107, h108, h123]
    refine on_kf hK38 [(3, _), (4, _), (11, _), (12, _), (13, _), (15, _), (16, _), (18, _), (19, _), (106, _), (107, _), (108, _), (123, _), (133, _)] (fa_cons h3 (fa_cons h4 (fa_cons h11 (fa_cons h12 (fa_cons h13 (fa_cons h15 (fa_cons h16 (fa_cons h18 (fa_cons h19 (fa_cons h106 (fa_cons h107 (fa_cons h108 (fa_cons h123 (fa_cons (by simp [h3, h4, h11, h12, h13, h15, h16, h18, h19, h106, h107, h108, h123] <;> rfl) fa_nil)))))))))))))) hds ?_
    clear hK38 h3 h4 h11 h12 h13 h15 h16 h18 h19 h106 h107 h108 h123 hds; intro s hs hds
    obtain ⟨h3, h4, h11, h12, h13, h15, h16, h18, h19, h106, h107, h108, h123, h133⟩ := facts14 hs; clear hs
    refine at_false 133 rfl h133 ?_
    (conv => arg 4; whnf)
    refine fw_region_lit rfl ?_
    simp [go_sem, opsF, opF, upF, Region.wanted, Fr.ev, Fr.put, thenE, inBlockE, Oper.semAt, yieldF, h3, h4, h11, h12, h13, h15, h16, h18, h19, h106, h107, h108, h123, h133]
    refine on_kf hK37 [(3, _), (4, _), (11, _), (12, _), (13, _), (15, _), (16, _), (18, _), (19, _), (106, _), (107, _), (108, _), (123, _), (133, _)] (fa_cons h3 (fa_cons h4 (fa_cons h11 (fa_cons h12 (fa_cons h13 (fa_cons h15 (fa_cons h16 (fa_cons h18 (fa_cons h19 (fa_cons h106 (fa_cons h107 (fa_cons h108 (fa_cons h123 (fa_cons (by simp [h3, h4, h11, h12, h13, h15, h16, h18, h19, h106, h107, h108, h123, h133] <;> rfl) fa_nil)))))))))))))) hds ?_
    clear hK37 h3 h4 h11 h12 h13 h15 h16 h18 h19 h106 h107 h108 h123 h133 hds; intro s hs hds
    obtain ⟨h3, h4, h11, h12, h13, h15, h16, h18, h19, h106, h107, h108, h123, h133⟩ := facts14 hs; clear hs
    refine at_false 133 rfl h133 ?_
    refine at_seq rfl fun K39 hK39 => ?_
    (conv => arg 4; whnf)
    refine fw_region_lit rfl ?_
    simp [go_sem, opsF, opF, upF, Region.wanted, Fr.ev, Fr.put, thenE, inBlockE, Oper.semAt, yieldF, h3, h4, h11, h12, h13, h15, h16, h18, h19, h106, h107, h108, h123, h133]
    refine on_kf hK39 [(3, _), (4, _), (11, _), (12, _), (13, _), (15, _), (16, _), (18, _), (19, _), (106, _), (107, _), (108, _), (123, _), (164, _)] (fa_cons h3 (fa_cons h4 (fa_cons h11 (fa_cons h12 (fa_cons h13 (fa_cons h15 (fa_cons h16 (fa_cons h18 (fa_cons h19 (fa_cons h106 (fa_cons h107 (fa_cons h108 (fa_cons h123 (fa_cons (by simp [h3, h4, h11, h12, h13, h15, h16, h18, h19, h106, h107, h108, h123, h133] <;> rfl) fa_nil)))))))))))))) hds ?_
    clear hK39 h3 h4 h11 h12 h13 h15 h16 h18 h19 h106 h107 h108 h123 h133 hds; intro s hs hds
    obtain ⟨h3, h4, h11, h12, h13, h15, h16, h18, h19, h106, h107, h108, h123, h164⟩ := facts14 hs; clear hs
    refine at_false 164 rfl h164 ?_
    refine at_seq rfl fun K40 hK40 => ?_
    (conv => arg 4; whnf)
    refine fw_region_lit rfl ?_
    simp [go_sem, opsF, opF, upF, Region.wanted, Fr.ev, Fr.put, thenE, inBlockE, Oper.semAt, yieldF, h3, h4, h11, h12, h13, h15, h16, h18, h19, h106, h107, h108, h123, h164]
    refine on_kf hK40 [(3, _), (4, _), (11, _), (12, _), (13, _), (15, _), (16, _), (18, _), (19, _), (106, _), (107, _), (108, _), (187, _)] (fa_cons h3 (fa_cons h4 (fa_cons h11 (fa_cons h12 (fa_cons h13 (fa_cons h15 (fa_cons h16 (fa_cons h18 (fa_cons h19 (fa_cons h106 (fa_cons h107 (fa_cons h108 (fa_cons (by simp [h3, h4, h11, h12, h13, h15, h16, h18, h19, h106, h107, h108, h123, h164] <;> rfl) fa_nil))))))))))))) hds ?_
    clear hK40 h3 h4 h11 h12 h13 h15 h16 h18 h19 h106 h107 h108 h123 h164 hds; intro s hs hds
    obtain ⟨h3, h4, h11, h12, h13, h15, h16, h18, h19, h106, h107, h108, h187⟩ := facts13 hs; clear hs
    refine at_false 187 rfl h187 ?_
    refine case_reset s w0 w _ v3 v4 low high sb base sv cv n i b18 x0 x1 l lv calls g1 g2 g3 hx1 ⟨h3, h4, h11, h12, h13, h15, h16, h106, h107, h108, hds⟩ h18 h19 hb hL ?_
    rintro s w' base' l' lv' sv' q1 q2
    simp only [inBlockE, thenE, if_true]
    exact ⟨hK24 s w' (hK s w' base' l' lv' sv' q1 q2), hK24 s w' (hK s w' base' l' lv' sv' q1 q2)⟩
end Go.Proofs.Ytiejaopidkghdac
