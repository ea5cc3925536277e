/- The law's first part: looks behind a call; all calls. -/
import Derived.Test.YtiejaopidkghdacPn
namespace Go.Proofs.Ytiejaopidkghdac
set_option linter.unusedSimpArgs false
set_option linter.unusedVariables false
open Go.RowKit Go.Lf

set_option maxHeartbeats 4000000 in
theorem seg47 (s : Fr) (w0 w : World) (Q : Exit → Fr → World → Prop) (v3 v4 : Value) (low high : Int) (sb : Nat) (base : Int) (sv cv : Value) (n i : Int) (l : List Int) (lv : Value) (calls : List (Int × Int)) (g1 : 1 ≤ low)
    (hs : SL v3 v4 low high sb base sv cv n i s) (h19 : s.t 19 = .int .i64 (topOf l)) (hL : LW w0 w sb low high base l lv sv cv calls)
    (hQ : ∀ (s : Fr) (w' : World), SL v3 v4 low high sb base sv cv n i s → LW w0 w' sb low high base l lv sv cv calls → Q .normal s w') :
    FW Try.prog 448 none (sub body3 [1,1,1,1,1,1,0,0,1,1,0,0,1,0,1,1,1,1,1,1]) Q s w := by
  obtain ⟨h3, h4, h11, h12, h13, h15, h16, h106, h107, h108, hds⟩ := hs
  have hwf := hL.wf
  have hlen := hwf.len
  obtain ⟨ad, cap, rfl⟩ : ∃ ad cap, sv = .slice ad l.length cap := by
    rcases hL.rs.val with ⟨h, h', _⟩ | ⟨g, cap, h, _⟩
    · exact ⟨none, 0, by rw [h, h']⟩
    · exact ⟨_, cap, h⟩
  refine at_seq rfl fun K1 hK1 => ?_
  (conv => arg 4; whnf)
  refine fw_region_lit rfl ?_
  refine ops_take 1 fun KO hKO => ?_
  simp [go_sem, opsF, opF, upF, Region.wanted, Fr.ev, Fr.put, thenE, inBlockE, Oper.semAt, yieldF, h3, h4, h11, h12, h13, h15, h16, h19, h106, h107, h108]
  refine hKO _ _ ?_
  clear hKO
  simp only [List.drop_succ_cons, List.drop_zero]
  refine ops_call rfl rfl rfl call6 (by simp [Fr.ev, h3, h4, h11, h12, h13, h15, h16, h19, h106, h107, h108] <;> rfl) ?_
  refine (base_any sb base low high lv l w hL.si g1).on ?_
  rintro _ w1 ⟨rfl, rfl⟩
  refine ops_take 4 fun KO hKO => ?_
  simp [go_sem, opsF, opF, upF, Region.wanted, Fr.ev, Fr.put, thenE, inBlockE, Oper.semAt, yieldF, h3, h4, h11, h12, h13, h15, h16, h19, h106, h107, h108]
  refine hKO _ _ ?_
  clear hKO
  simp only [List.drop_succ_cons, List.drop_zero]
  refine ops_call rfl (by simp [Region.wanted, yieldF, h3, h4, h11, h12, h13, h15, h16, h19, h106, h107, h108]) rfl call7 (by simp [Fr.ev, h3, h4, h11, h12, h13, h15, h16, h19, h106, h107, h108] <;> rfl) ?_
  refine (stop_any sb base low high lv l w1 hL.si g1).on ?_
  rintro _ w2 ⟨rfl, hn2⟩
  have hL2 := hL.new hn2
  refine ops_take 5 fun KO hKO => ?_
  simp [go_sem, opsF, opF, upF, Region.wanted, Fr.ev, Fr.put, thenE, inBlockE, Oper.semAt, yieldF, h3, h4, h11, h12, h13, h15, h16, h19, h106, h107, h108]
  refine hKO _ _ ?_
  clear hKO
  simp only [List.drop_succ_cons, List.drop_zero]
  refine ops_call rfl (by simp [Region.wanted, yieldF, h3, h4, h11, h12, h13, h15, h16, h19, h106, h107, h108]) rfl call14 (by simp [Fr.ev, h3, h4, h11, h12, h13, h15, h16, h19, h106, h107, h108] <;> rfl) ?_
  refine (heights_any sb base low high lv l w2 hL2.si g1 (by omega)).on ?_
  rintro hv w3 ⟨hr3, hn3, ho3⟩
  have hL3 := hL2.new hn3
  refine ops_take 1 fun KO hKO => ?_
  simp [go_sem, opsF, opF, upF, Region.wanted, Fr.ev, Fr.put, thenE, inBlockE, Oper.semAt, yieldF, h3, h4, h11, h12, h13, h15, h16, h19, h106, h107, h108]
  refine hKO _ _ ?_
  clear hKO
  simp only [List.drop_succ_cons, List.drop_zero]
  refine ops_call rfl (by simp [Region.wanted, yieldF, h3, h4, h11, h12, h13, h15, h16, h19, h106, h107, h108]) rfl call13 (by simp [Fr.ev, h3, h4, h11, h12, h13, h15, h16, h19, h106, h107, h108] <;> rfl) ?_
  refine (equal_any hv (.slice ad l.length cap) l w3 hr3 hL3.rs).on ?_
  rintro _ w4 ⟨rfl, hn4⟩
  have hL4 := hL3.new hn4
  refine ops_take 4 fun KO hKO => ?_
  simp [go_sem, opsF, opF, upF, Region.wanted, Fr.ev, Fr.put, thenE, inBlockE, Oper.semAt, yieldF, h3, h4, h11, h12, h13, h15, h16, h19, h106, h107, h108]
  refine hKO _ _ ?_
  clear hKO
  simp only [List.drop_succ_cons, List.drop_zero]
  refine ops_call rfl (by simp [Region.wanted, yieldF, h3, h4, h11, h12, h13, h15, h16, h19, h106, h107, h108]) rfl call5 (by simp [Fr.ev, h3, h4, h11, h12, h13, h15, h16, h19, h106, h107, h108] <;> rfl) ?_
  refine (done_any sb base low high lv l w4 hL4.si g1).on ?_
  rintro _ w5 ⟨rfl, rfl⟩
  by_cases hl : l = []
  · subst hl
    simp [go_sem, opsF, opF, upF, Region.wanted, Fr.ev, Fr.put, thenE, inBlockE, Oper.semAt, yieldF, h3, h4, h11, h12, h13, h15, h16, h19, h106, h107, h108]
    refine on_kf hK1 [(3, _), (4, _), (11, _), (12, _), (13, _), (15, _), (16, _), (106, _), (107, _), (108, _), (249, _)] (fa_cons h3 (fa_cons h4 (fa_cons h11 (fa_cons h12 (fa_cons h13 (fa_cons h15 (fa_cons h16 (fa_cons h106 (fa_cons h107 (fa_cons h108 (fa_cons (by simp [h3, h4, h11, h12, h13, h15, h16, h19, h106, h107, h108] <;> rfl) fa_nil))))))))))) hds ?_
    clear hK1 h3 h4 h11 h12 h13 h15 h16 h19 h106 h107 h108 hds; intro s hs hds
    obtain ⟨h3, h4, h11, h12, h13, h15, h16, h106, h107, h108, h249⟩ := facts11 hs; clear hs
    refine at_false 249 rfl h249 ?_
    refine at_skip rfl ?_
    try simp only [inBlockE, thenE]
    exact hQ s w5 ⟨h3, h4, h11, h12, h13, h15, h16, h106, h107, h108, hds⟩ hL4
  · have hp : ((l.length : Int) == 0) = false := by have := List.length_pos_iff.2 hl; simp; omega
    rw [decide_eq_false hl]
    simp [go_sem, opsF, opF, upF, Region.wanted, Fr.ev, Fr.put, thenE, inBlockE, Oper.semAt, yieldF, h3, h4, h11, h12, h13, h15, h16, h19, h106, h107, h108, hp]
    refine on_kf hK1 [(3, _), (4, _), (11, _), (12, _), (13, _), (15, _), (16, _), (106, _), (107, _), (108, _), (249, _)] (fa_cons h3 (fa_cons h4 (fa_cons h11 (fa_cons h12 (fa_cons h13 (fa_cons h15 (fa_cons h16 (fa_cons h106 (fa_cons h107 (fa_cons h108 (fa_cons (by simp [h3, h4, h11, h12, h13, h15, h16, h19, h106, h107, h108] <;> rfl) fa_nil))))))))))) hds ?_
    clear hK1 h3 h4 h11 h12 h13 h15 h16 h19 h106 h107 h108 hds; intro s hs hds
    obtain ⟨h3, h4, h11, h12, h13, h15, h16, h106, h107, h108, h249⟩ := facts11 hs; clear hs
    refine at_false 249 rfl h249 ?_
    refine at_skip rfl ?_
    try simp only [inBlockE, thenE]
    exact hQ s w5 ⟨h3, h4, h11, h12, h13, h15, h16, h106, h107, h108, hds⟩ hL4

def CaI (w0 : World) (v3 v4 : Value) (low high : Int) (sb : Nat) (cv : Value) (calls : List (Int × Int)) (m : Nat) (s : Fr) (w : World) : Prop :=
  ∃ (i : Nat) (base : Int) (l : List Int) (lv sv : Value), i ≤ calls.length ∧ m = calls.length - i ∧ SL v3 v4 low high sb base sv cv (calls.length : Int) (i : Int) s ∧ LW w0 w sb low high base l lv sv cv calls

set_option maxHeartbeats 4000000 in
theorem loop_calls (s : Fr) (w0 w : World) (K : Fr → World → Prop) (Q : Exit → Fr → World → Prop) (v3 v4 : Value) (low high : Int) (sb : Nat) (cv : Value) (calls : List (Int × Int)) (g1 : 1 ≤ low) (g2 : low < high) (g3 : high ≤ 400) (hlen : calls.length ≤ 1000) (hok : ∀ p ∈ calls, U2ok p)
    (h0 : CaI w0 v3 v4 low high sb cv calls calls.length s w) (hK : ∀ s w, CaI w0 v3 v4 low high sb cv calls 0 s w → K s w) : FW Try.prog 448 none (sub body3 [1,0,1,1,1,1,1,1]) (thenE K Q) s w := by
  refine at_block 0 rfl ?_
  refine at_loop rfl (CaI w0 v3 v4 low high sb cv calls) calls.length h0 ?_
  clear h0 s w
  rintro m s w ⟨i, base, l, lv, sv, hi, rfl, ⟨h3, h4, h11, h12, h13, h15, h16, h106, h107, h108, hds⟩, hL⟩
  by_cases hlt : i < calls.length
  · have d0 : (i : Int) < (calls.length : Int) := by omega
    have d1 : IntKind.i64.wrap ((i : Int) + 1) = (i : Int) + 1 := IntWalk.i64_in _ (by omega)
    obtain ⟨r, hri⟩ : ∃ r, calls[i]? = some r := ⟨calls[i], by simp [hlt]⟩
    have hrok := hok r (List.mem_of_getElem? hri)
    obtain ⟨g, cap, rfl, hcap, hmax⟩ : ∃ g cap, cv = .slice (some ⟨g, 0, none⟩) calls.length cap ∧ calls.length ≤ cap ∧ cap ≤ maxLen := by
      rcases hL.rc.val with ⟨_, h, _⟩ | h
      · omega
      · exact h
    have e0 : w.cell? ⟨g, i * 2, none⟩ = some (.int .u16 r.1) := hL.rc.cell (u2s_get calls i 0 r hri (by decide))
    have e1 : w.cell? ⟨g, i * 2 + 1, none⟩ = some (.int .u16 r.2) := hL.rc.cell (u2s_get calls i 1 r hri (by decide))
    have hA := Frm.alloc (fun _ => False) w (.cells #[.int .u16 r.1, .int .u16 r.2] 31)
    have hb18 := Blk.new w #[.int .u16 r.1, .int .u16 r.2] 31
    refine at_seq rfl fun K2 hK2 => ?_
    (conv => arg 4; whnf)
    refine fw_region_lit rfl ?_
    simp [go_sem, opsF, opF, upF, Region.wanted, Fr.ev, Fr.put, thenE, inBlockE, Oper.semAt, yieldF, h3, h4, h11, h12, h13, h15, h16, h106, h107, h108, d0]
    refine on_kf hK2 [(3, _), (4, _), (11, _), (12, _), (13, _), (15, _), (16, _), (106, _), (107, _), (108, _), (109, _)] (fa_cons h3 (fa_cons h4 (fa_cons h11 (fa_cons h12 (fa_cons h13 (fa_cons h15 (fa_cons h16 (fa_cons h106 (fa_cons h107 (fa_cons h108 (fa_cons (by simp [h3, h4, h11, h12, h13, h15, h16, h106, h107, h108, d0] <;> rfl) fa_nil))))))))))) hds ?_
    clear hK2 h3 h4 h11 h12 h13 h15 h16 h106 h107 h108 hds; intro s hs hds
    obtain ⟨h3, h4, h11, h12, h13, h15, h16, h106, h107, h108, h109⟩ := facts11 hs; clear hs
    refine at_seq rfl fun K3 hK3 => ?_
    refine at_true 109 rfl h109 ?_
    refine at_skip rfl ?_
    try simp only [inBlockE, thenE]
    refine hK3 _ _ ?_
    clear hK3
    refine at_seq rfl fun K4 hK4 => ?_
    refine at_block 1 rfl ?_
    refine at_seq rfl fun K5 hK5 => ?_
    (conv => arg 4; whnf)
    refine fw_region_lit rfl ?_
    simp [go_sem, opsF, opF, upF, Region.wanted, Fr.ev, Fr.put, thenE, inBlockE, Oper.semAt, yieldF, h3, h4, h11, h12, h13, h15, h16, h106, h107, h108, h109, hlt, e0, e1]
    refine on_kf hK5 [(3, _), (4, _), (11, _), (12, _), (13, _), (15, _), (16, _), (18, _), (106, _), (107, _), (108, _)] (fa_cons h3 (fa_cons h4 (fa_cons h11 (fa_cons h12 (fa_cons h13 (fa_cons h15 (fa_cons h16 (fa_cons (by simp [h3, h4, h11, h12, h13, h15, h16, h106, h107, h108, h109, hlt, e0, e1] <;> rfl) (fa_cons h106 (fa_cons h107 (fa_cons h108 fa_nil))))))))))) hds ?_
    clear hK5 h3 h4 h11 h12 h13 h15 h16 h106 h107 h108 h109 hds; intro s hs hds
    obtain ⟨h3, h4, h11, h12, h13, h15, h16, h18, h106, h107, h108⟩ := facts11 hs; clear hs
    have hL1 := hL.new hA
    generalize w.alloc (.cells #[.int .u16 r.1, .int .u16 r.2] 31) = w1 at *
    generalize w.heap.size = b18 at *
    refine seg11 s w1 _ v3 v4 low high sb base sv _ _ _ _ l hL1.rs ⟨h3, h4, h11, h12, h13, h15, h16, h106, h107, h108, hds⟩ h18 ?_
    clear h3 h4 h11 h12 h13 h15 h16 h18 h106 h107 h108 hds
    clear s
    rintro s hs h18 h19
    refine seg14 s w0 w1 _ v3 v4 low high sb base sv _ _ _ b18 r.1 r.2 l lv calls g1 g2 g3 hrok.1 hrok.2 hs h18 h19 hb18 hL1 ?_
    clear hs h18 h19 s
    intro s w2 base2 l2 lv2 sv2 hs hL2
    refine seg44 s w2 _ v3 v4 low high sb base2 sv2 _ _ _ l2 hL2.rs hs ?_
    clear hs s
    rintro s hs h19
    refine seg47 s w0 w2 _ v3 v4 low high sb base2 sv2 _ _ _ l2 lv2 calls g1 hs h19 hL2 ?_
    clear hs h19 s
    rintro s w3 ⟨h3, h4, h11, h12, h13, h15, h16, h106, h107, h108, hds⟩ hL3
    simp only [inBlockE, thenE]
    refine hK4 _ _ ?_
    clear hK4
    (conv => arg 4; whnf)
    refine fw_region_lit rfl ?_
    simp [go_sem, opsF, opF, upF, Region.wanted, Fr.ev, Fr.put, thenE, inBlockE, Oper.semAt, yieldF, h3, h4, h11, h12, h13, h15, h16, h106, h107, h108, d1]
    exact ⟨calls.length - (i + 1), by omega, i + 1, base2, l2, lv2, sv2, by omega, rfl, ⟨by simp [h3], by simp [h4], by simp [h11], by simp [h12], by simp [h13], by simp [h15], by simp [h16], by simp [h106], by simp [h107], by simp, hds⟩, hL3⟩
  · have d0 : ¬ (i : Int) < (calls.length : Int) := by omega
    refine at_seq rfl fun K6 hK6 => ?_
    (conv => arg 4; whnf)
    refine fw_region_lit rfl ?_
    simp [go_sem, opsF, opF, upF, Region.wanted, Fr.ev, Fr.put, thenE, inBlockE, Oper.semAt, yieldF, h3, h4, h11, h12, h13, h15, h16, h106, h107, h108, d0]
    refine on_kf hK6 [(3, _), (4, _), (11, _), (12, _), (13, _), (15, _), (16, _), (106, _), (107, _), (108, _), (109, _)] (fa_cons h3 (fa_cons h4 (fa_cons h11 (fa_cons h12 (fa_cons h13 (fa_cons h15 (fa_cons h16 (fa_cons h106 (fa_cons h107 (fa_cons h108 (fa_cons (by simp [h3, h4, h11, h12, h13, h15, h16, h106, h107, h108, d0] <;> rfl) fa_nil))))))))))) hds ?_
    clear hK6 h3 h4 h11 h12 h13 h15 h16 h106 h107 h108 hds; intro s hs hds
    obtain ⟨h3, h4, h11, h12, h13, h15, h16, h106, h107, h108, h109⟩ := facts11 hs; clear hs
    refine at_seq rfl fun K7 hK7 => ?_
    refine at_false 109 rfl h109 ?_
    refine at_exit 0 rfl ?_
    simp only [inBlockE, thenE, if_true]
    exact hK s w ⟨i, base, l, lv, sv, hi, by omega, ⟨h3, h4, h11, h12, h13, h15, h16, h106, h107, h108, hds⟩, hL⟩
end Go.Proofs.Ytiejaopidkghdac
