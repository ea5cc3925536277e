/- The law's first part: a split, a pop. -/
import Derived.Test.YtiejaopidkghdacPl
namespace Go.Proofs.Ytiejaopidkghdac
set_option linter.unusedSimpArgs false
set_option linter.unusedVariables false
open Go.RowKit Go.Lf

theorem topCase {base : Int} {l : List Int} (h : WF base l) : (l = [] ∧ topOf l = 0) ∨ (l ≠ [] ∧ base < topOf l ∧ topOf l ≤ 400) := by
  by_cases hl : l = []
  · exact .inl ⟨hl, by rw [hl]; rfl⟩
  · exact .inr ⟨hl, h.top hl⟩

set_option maxHeartbeats 4000000 in
theorem case_split (s : Fr) (w0 w : World) (Q : Exit → Fr → World → Prop) (v3 v4 : Value) (low high : Int) (sb : Nat) (base : Int) (sv cv : Value) (n i : Int) (l : List Int) (lv : Value) (calls : List (Int × Int)) (g1 : 1 ≤ low)
    (hs : SL v3 v4 low high sb base sv cv n i s) (h19 : s.t 19 = .int .i64 (topOf l)) (hL : LW w0 w sb low high base l lv sv cv calls)
    (hQ : ∀ (s : Fr) (w' : World) base' l' lv' sv', SL v3 v4 low high sb base' sv' cv n i s → LW w0 w' sb low high base' l' lv' sv' cv calls → Q .normal s w') :
    FW Try.prog 448 none (sub body3 [0,1,0,1,0,1,1,1,0,0,1,1,0,0,1,0,1,1,1,1,1,1]) Q s w := by
  obtain ⟨h3, h4, h11, h12, h13, h15, h16, h106, h107, h108, hds⟩ := hs
  have hwf := hL.wf
  have hb1 := hwf.b1
  have hb2 := hwf.b2
  have hlen := hwf.len
  have htop := topCase hwf
  have w1 : IntKind.i64.wrap (base + 1) = base + 1 := IntWalk.i64_in _ (by omega)
  have w2 : IntKind.i64.wrap (topOf l - base) = topOf l - base := IntWalk.i64_in _ (by omega)
  have sp := split_any sb base low high lv l
  by_cases hgt : base + 1 < topOf l
  · have hl : l ≠ [] := by
      rcases htop with h | h
      · omega
      · exact h.1
    have htp := hwf.top hl
    have w3 : Int.tdiv (topOf l - base) 2 = (topOf l - base) / 2 := Int.tdiv_eq_ediv_of_nonneg (by omega)
    have w4 : IntKind.i64.wrap ((topOf l - base) / 2) = (topOf l - base) / 2 := IntWalk.i64_in _ (by omega)
    have w5 : IntKind.i64.wrap (midOf base (topOf l)) = midOf base (topOf l) := IntWalk.i64_in _ (by unfold midOf; omega)
    have hmd : base + (topOf l - base) / 2 = midOf base (topOf l) := rfl
    refine at_seq rfl fun K1 hK1 => ?_
    (conv => arg 4; whnf)
    refine fw_region_lit rfl ?_
    simp [go_sem, opsF, opF, upF, Region.wanted, Fr.ev, Fr.put, thenE, inBlockE, Oper.semAt, yieldF, h3, h4, h11, h12, h13, h15, h16, h19, h106, h107, h108, w1, hgt]
    refine on_kf hK1 [(3, _), (4, _), (11, _), (12, _), (13, _), (15, _), (16, _), (19, _), (20, _), (21, _), (106, _), (107, _), (108, _)] (fa_cons h3 (fa_cons h4 (fa_cons h11 (fa_cons h12 (fa_cons h13 (fa_cons h15 (fa_cons h16 (fa_cons h19 (fa_cons (by simp [h3, h4, h11, h12, h13, h15, h16, h19, h106, h107, h108, w1, hgt] <;> rfl) (fa_cons (by simp [h3, h4, h11, h12, h13, h15, h16, h19, h106, h107, h108, w1, hgt] <;> rfl) (fa_cons h106 (fa_cons h107 (fa_cons h108 fa_nil))))))))))))) hds ?_
    clear hK1 h3 h4 h11 h12 h13 h15 h16 h19 h106 h107 h108 hds; intro s hs hds
    obtain ⟨h3, h4, h11, h12, h13, h15, h16, h19, h20, h21, h106, h107, h108⟩ := facts13 hs; clear hs
    refine at_seq rfl fun K2 hK2 => ?_
    refine at_seq rfl fun K3 hK3 => ?_
    (conv => arg 4; whnf)
    refine fw_region_lit rfl ?_
    simp [go_sem, opsF, opF, upF, Region.wanted, Fr.ev, Fr.put, thenE, inBlockE, Oper.semAt, yieldF, h3, h4, h11, h12, h13, h15, h16, h19, h20, h21, h106, h107, h108, w1, hgt]
    refine on_kf hK3 [(3, _), (4, _), (11, _), (12, _), (13, _), (15, _), (16, _), (19, _), (20, _), (21, _), (106, _), (107, _), (108, _), (139, _)] (fa_cons h3 (fa_cons h4 (fa_cons h11 (fa_cons h12 (fa_cons h13 (fa_cons h15 (fa_cons h16 (fa_cons h19 (fa_cons h20 (fa_cons h21 (fa_cons h106 (fa_cons h107 (fa_cons h108 (fa_cons (by simp [h3, h4, h11, h12, h13, h15, h16, h19, h20, h21, h106, h107, h108, w1, hgt] <;> rfl) fa_nil)))))))))))))) hds ?_
    clear hK3 h3 h4 h11 h12 h13 h15 h16 h19 h20 h21 h106 h107 h108 hds; intro s hs hds
    obtain ⟨h3, h4, h11, h12, h13, h15, h16, h19, h20, h21, h106, h107, h108, h139⟩ := facts14 hs; clear hs
    refine at_true 139 rfl h139 ?_
    refine at_seq rfl fun K4 hK4 => ?_
    (conv => arg 4; whnf)
    refine fw_region_lit rfl ?_
    simp [go_sem, opsF, opF, upF, Region.wanted, Fr.ev, Fr.put, thenE, inBlockE, Oper.semAt, yieldF, h3, h4, h11, h12, h13, h15, h16, h19, h20, h21, h106, h107, h108, h139, w2, w3, w4, w5, hmd]
    refine on_kf hK4 [(3, _), (4, _), (11, _), (12, _), (13, _), (15, _), (16, _), (20, _), (21, _), (106, _), (107, _), (108, _)] (fa_cons h3 (fa_cons h4 (fa_cons h11 (fa_cons h12 (fa_cons h13 (fa_cons h15 (fa_cons h16 (fa_cons (by simp [h3, h4, h11, h12, h13, h15, h16, h19, h20, h21, h106, h107, h108, h139, w2, w3, w4, w5, hmd] <;> rfl) (fa_cons (by simp [h3, h4, h11, h12, h13, h15, h16, h19, h20, h21, h106, h107, h108, h139, w2, w3, w4, w5, hmd] <;> rfl) (fa_cons h106 (fa_cons h107 (fa_cons h108 fa_nil)))))))))))) hds ?_
    clear hK4 h3 h4 h11 h12 h13 h15 h16 h19 h20 h21 h106 h107 h108 h139 hds; intro s hs hds
    obtain ⟨h3, h4, h11, h12, h13, h15, h16, h20, h21, h106, h107, h108⟩ := facts12 hs; clear hs
    have hmid := mid_lt hgt
    (conv => arg 4; whnf)
    refine fw_region_lit rfl ?_
    refine ops_take 1 fun KO hKO => ?_
    simp [go_sem, opsF, opF, upF, Region.wanted, Fr.ev, Fr.put, thenE, inBlockE, Oper.semAt, yieldF, h3, h4, h11, h12, h13, h15, h16, h20, h21, h106, h107, h108]
    refine hKO _ _ ?_
    clear hKO
    simp only [List.drop_succ_cons, List.drop_zero]
    refine ops_call rfl rfl rfl call8 (by simp [Fr.ev, h3, h4, h11, h12, h13, h15, h16, h20, h21, h106, h107, h108] <;> rfl) ?_
    refine (clone_any sv l w hL.rs (by omega)).on ?_
    rintro cw wa ⟨hr1, hn1, ho1⟩
    obtain ⟨v', wb, hap, hr2, hf2, ho2⟩ := hr1.grow (P := Try.prog) (S := 30) (ty := 30) Try.underlying30 info3 rfl (by decide) [.int .i64 (midOf base (topOf l))] rfl (by simp [Value.oneCell']) (by unfold maxLen; omega) (by omega)
    have hLa := hL.new hn1
    have hn2 : New w wb := Frm.trans hn1 hf2 (fun k hk e => by have := ho1 k e; omega)
    have hLb := hL.new hn2
    try simp only [List.drop_succ_cons, List.drop_zero]
    refine ops_take 2 fun KO hKO => ?_
    simp [go_sem, opsF, opF, upF, Region.wanted, Fr.ev, Fr.put, thenE, inBlockE, Oper.semAt, yieldF, h3, h4, h11, h12, h13, h15, h16, h20, h21, h106, h107, h108]
    refine hKO _ _ ?_
    clear hKO
    refine ops_append rfl rfl rfl (v := cw) (u := .slice (some ⟨wa.heap.size, 0, none⟩) 1 1) (by simp [Fr.ev]) (by simp [Fr.ev]) hap ?_
    try simp [go_sem, opsF, opF, upF, Region.wanted, Fr.ev, Fr.put, thenE, inBlockE, Oper.semAt, yieldF, h3, h4, h11, h12, h13, h15, h16, h20, h21, h106, h107, h108]
    have hnw : ∀ k, v'.ownBlock = some k → w.heap.size ≤ k := by
      intro k hk
      rcases ho2 k hk with h | h
      · exact ho1 k h
      · have := hn1.size; omega
    refine on_kf hK2 [(3, _), (4, _), (11, _), (12, _), (13, _), (15, _), (16, _), (20, _), (21, _), (106, _), (107, _), (108, _)] (fa_cons h3 (fa_cons h4 (fa_cons h11 (fa_cons h12 (fa_cons h13 (fa_cons h15 (fa_cons (by simp [h3, h4, h11, h12, h13, h15, h16, h20, h21, h106, h107, h108] <;> rfl) (fa_cons h20 (fa_cons h21 (fa_cons h106 (fa_cons h107 (fa_cons h108 fa_nil)))))))))))) hds ?_
    clear hK2 h3 h4 h11 h12 h13 h15 h16 h20 h21 h106 h107 h108 hds; intro s hs hds
    obtain ⟨h3, h4, h11, h12, h13, h15, h16, h20, h21, h106, h107, h108⟩ := facts12 hs; clear hs
    refine at_seq rfl fun K5 hK5 => ?_
    (conv => arg 4; whnf)
    refine fw_region_lit rfl ?_
    refine ops_take 1 fun KO hKO => ?_
    simp [go_sem, opsF, opF, upF, Region.wanted, Fr.ev, Fr.put, thenE, inBlockE, Oper.semAt, yieldF, h3, h4, h11, h12, h13, h15, h16, h20, h21, h106, h107, h108]
    refine hKO _ _ ?_
    clear hKO
    simp only [List.drop_succ_cons, List.drop_zero]
    refine ops_call rfl rfl rfl call9 (by simp [Fr.ev, h3, h4, h11, h12, h13, h15, h16, h20, h21, h106, h107, h108] <;> rfl) ?_
    refine (split_any sb base low high lv l wb hLb.si g1 hwf).on ?_
    rintro v wc hsp
    have hno : ¬ (l = [] ∨ topOf l = base + 1) := by
      rintro (h | h)
      · exact hl h
      · omega
    rw [if_neg hno] at hsp
    obtain ⟨rfl, lv', hS, hM⟩ := hsp
    simp [go_sem, opsF, opF, upF, Region.wanted, Fr.ev, Fr.put, thenE, inBlockE, Oper.semAt, yieldF, h3, h4, h11, h12, h13, h15, h16, h20, h21, h106, h107, h108]
    refine on_kf hK5 [(3, _), (4, _), (11, _), (12, _), (13, _), (15, _), (16, _), (20, _), (21, _), (22, _), (23, _), (106, _), (107, _), (108, _)] (fa_cons h3 (fa_cons h4 (fa_cons h11 (fa_cons h12 (fa_cons h13 (fa_cons h15 (fa_cons h16 (fa_cons h20 (fa_cons h21 (fa_cons (by simp [h3, h4, h11, h12, h13, h15, h16, h20, h21, h106, h107, h108] <;> rfl) (fa_cons (by simp [h3, h4, h11, h12, h13, h15, h16, h20, h21, h106, h107, h108] <;> rfl) (fa_cons h106 (fa_cons h107 (fa_cons h108 fa_nil)))))))))))))) hds ?_
    clear hK5 h3 h4 h11 h12 h13 h15 h16 h20 h21 h106 h107 h108 hds; intro s hs hds
    obtain ⟨h3, h4, h11, h12, h13, h15, h16, h20, h21, h22, h23, h106, h107, h108⟩ := facts14 hs; clear hs
    refine at_seq rfl fun K6 hK6 => ?_
    (conv => arg 4; whnf)
    refine fw_region_lit rfl ?_
    simp [go_sem, opsF, opF, upF, Region.wanted, Fr.ev, Fr.put, thenE, inBlockE, Oper.semAt, yieldF, h3, h4, h11, h12, h13, h15, h16, h20, h21, h22, h23, h106, h107, h108]
    refine on_kf hK6 [(3, _), (4, _), (11, _), (12, _), (13, _), (15, _), (16, _), (106, _), (107, _), (108, _), (163, _)] (fa_cons h3 (fa_cons h4 (fa_cons h11 (fa_cons h12 (fa_cons h13 (fa_cons h15 (fa_cons h16 (fa_cons h106 (fa_cons h107 (fa_cons h108 (fa_cons (by simp [h3, h4, h11, h12, h13, h15, h16, h20, h21, h22, h23, h106, h107, h108] <;> rfl) fa_nil))))))))))) hds ?_
    clear hK6 h3 h4 h11 h12 h13 h15 h16 h20 h21 h22 h23 h106 h107 h108 hds; intro s hs hds
    obtain ⟨h3, h4, h11, h12, h13, h15, h16, h106, h107, h108, h163⟩ := facts11 hs; clear hs
    refine at_false 163 rfl h163 ?_
    refine at_skip rfl ?_
    try simp only [inBlockE, thenE]
    refine hQ s wc base (l ++ [midOf base (topOf l)]) lv' v' ⟨h3, h4, h11, h12, h13, h15, h16, h106, h107, h108, hds⟩ (hLb.turn hM hS (by simpa using hr2) ?_ ?_ (hwf.push hmid.1 hmid.2 hl))
    · intro k hk e
      have := hnw k hk
      have := hL.si.row.lt k e
      omega
    · intro k hk
      have := hnw k hk
      have := hL.nw.size
      omega
  · refine at_seq rfl fun K7 hK7 => ?_
    (conv => arg 4; whnf)
    refine fw_region_lit rfl ?_
    simp [go_sem, opsF, opF, upF, Region.wanted, Fr.ev, Fr.put, thenE, inBlockE, Oper.semAt, yieldF, h3, h4, h11, h12, h13, h15, h16, h19, h106, h107, h108, w1, hgt]
    refine on_kf hK7 [(3, _), (4, _), (11, _), (12, _), (13, _), (15, _), (16, _), (19, _), (20, _), (21, _), (106, _), (107, _), (108, _)] (fa_cons h3 (fa_cons h4 (fa_cons h11 (fa_cons h12 (fa_cons h13 (fa_cons h15 (fa_cons h16 (fa_cons h19 (fa_cons (by simp [h3, h4, h11, h12, h13, h15, h16, h19, h106, h107, h108, w1, hgt] <;> rfl) (fa_cons (by simp [h3, h4, h11, h12, h13, h15, h16, h19, h106, h107, h108, w1, hgt] <;> rfl) (fa_cons h106 (fa_cons h107 (fa_cons h108 fa_nil))))))))))))) hds ?_
    clear hK7 h3 h4 h11 h12 h13 h15 h16 h19 h106 h107 h108 hds; intro s hs hds
    obtain ⟨h3, h4, h11, h12, h13, h15, h16, h19, h20, h21, h106, h107, h108⟩ := facts13 hs; clear hs
    refine at_seq rfl fun K8 hK8 => ?_
    refine at_seq rfl fun K9 hK9 => ?_
    (conv => arg 4; whnf)
    refine fw_region_lit rfl ?_
    simp [go_sem, opsF, opF, upF, Region.wanted, Fr.ev, Fr.put, thenE, inBlockE, Oper.semAt, yieldF, h3, h4, h11, h12, h13, h15, h16, h19, h20, h21, h106, h107, h108, w1, hgt]
    refine on_kf hK9 [(3, _), (4, _), (11, _), (12, _), (13, _), (15, _), (16, _), (19, _), (20, _), (21, _), (106, _), (107, _), (108, _), (139, _)] (fa_cons h3 (fa_cons h4 (fa_cons h11 (fa_cons h12 (fa_cons h13 (fa_cons h15 (fa_cons h16 (fa_cons h19 (fa_cons h20 (fa_cons h21 (fa_cons h106 (fa_cons h107 (fa_cons h108 (fa_cons (by simp [h3, h4, h11, h12, h13, h15, h16, h19, h20, h21, h106, h107, h108, w1, hgt] <;> rfl) fa_nil)))))))))))))) hds ?_
    clear hK9 h3 h4 h11 h12 h13 h15 h16 h19 h20 h21 h106 h107 h108 hds; intro s hs hds
    obtain ⟨h3, h4, h11, h12, h13, h15, h16, h19, h20, h21, h106, h107, h108, h139⟩ := facts14 hs; clear hs
    refine at_false 139 rfl h139 ?_
    refine at_skip rfl ?_
    try simp only [inBlockE, thenE]
    refine hK8 _ _ ?_
    clear hK8
    refine at_seq rfl fun K10 hK10 => ?_
    (conv => arg 4; whnf)
    refine fw_region_lit rfl ?_
    refine ops_take 1 fun KO hKO => ?_
    simp [go_sem, opsF, opF, upF, Region.wanted, Fr.ev, Fr.put, thenE, inBlockE, Oper.semAt, yieldF, h3, h4, h11, h12, h13, h15, h16, h19, h20, h21, h106, h107, h108, h139]
    refine hKO _ _ ?_
    clear hKO
    simp only [List.drop_succ_cons, List.drop_zero]
    refine ops_call rfl rfl rfl call9 (by simp [Fr.ev, h3, h4, h11, h12, h13, h15, h16, h19, h20, h21, h106, h107, h108, h139] <;> rfl) ?_
    refine (split_any sb base low high lv l w hL.si g1 hwf).on ?_
    rintro v wc hsp
    have hyes : l = [] ∨ topOf l = base + 1 := by
      rcases htop with h | h
      · exact .inl h.1
      · exact .inr (by omega)
    rw [if_pos hyes] at hsp
    obtain ⟨rfl, hn⟩ := hsp
    simp [go_sem, opsF, opF, upF, Region.wanted, Fr.ev, Fr.put, thenE, inBlockE, Oper.semAt, yieldF, h3, h4, h11, h12, h13, h15, h16, h19, h20, h21, h106, h107, h108, h139]
    refine on_kf hK10 [(3, _), (4, _), (11, _), (12, _), (13, _), (15, _), (16, _), (20, _), (21, _), (22, _), (23, _), (106, _), (107, _), (108, _)] (fa_cons h3 (fa_cons h4 (fa_cons h11 (fa_cons h12 (fa_cons h13 (fa_cons h15 (fa_cons h16 (fa_cons h20 (fa_cons h21 (fa_cons (by simp [h3, h4, h11, h12, h13, h15, h16, h19, h20, h21, h106, h107, h108, h139] <;> rfl) (fa_cons (by simp [h3, h4, h11, h12, h13, h15, h16, h19, h20, h21, h106, h107, h108, h139] <;> rfl) (fa_cons h106 (fa_cons h107 (fa_cons h108 fa_nil)))))))))))))) hds ?_
    clear hK10 h3 h4 h11 h12 h13 h15 h16 h19 h20 h21 h106 h107 h108 h139 hds; intro s hs hds
    obtain ⟨h3, h4, h11, h12, h13, h15, h16, h20, h21, h22, h23, h106, h107, h108⟩ := facts14 hs; clear hs
    refine at_seq rfl fun K11 hK11 => ?_
    (conv => arg 4; whnf)
    refine fw_region_lit rfl ?_
    simp [go_sem, opsF, opF, upF, Region.wanted, Fr.ev, Fr.put, thenE, inBlockE, Oper.semAt, yieldF, h3, h4, h11, h12, h13, h15, h16, h20, h21, h22, h23, h106, h107, h108]
    refine on_kf hK11 [(3, _), (4, _), (11, _), (12, _), (13, _), (15, _), (16, _), (106, _), (107, _), (108, _), (163, _)] (fa_cons h3 (fa_cons h4 (fa_cons h11 (fa_cons h12 (fa_cons h13 (fa_cons h15 (fa_cons h16 (fa_cons h106 (fa_cons h107 (fa_cons h108 (fa_cons (by simp [h3, h4, h11, h12, h13, h15, h16, h20, h21, h22, h23, h106, h107, h108] <;> rfl) fa_nil))))))))))) hds ?_
    clear hK11 h3 h4 h11 h12 h13 h15 h16 h20 h21 h22 h23 h106 h107 h108 hds; intro s hs hds
    obtain ⟨h3, h4, h11, h12, h13, h15, h16, h106, h107, h108, h163⟩ := facts11 hs; clear hs
    refine at_false 163 rfl h163 ?_
    refine at_skip rfl ?_
    try simp only [inBlockE, thenE]
    exact hQ s wc base l lv sv ⟨h3, h4, h11, h12, h13, h15, h16, h106, h107, h108, hds⟩ (hL.new hn)

set_option maxHeartbeats 4000000 in
theorem case_pop (s : Fr) (w0 w : World) (Q : Exit → Fr → World → Prop) (v3 v4 : Value) (low high : Int) (sb : Nat) (base : Int) (sv cv : Value) (n i : Int) (l : List Int) (lv : Value) (calls : List (Int × Int)) (g1 : 1 ≤ low)
    (hs : SL v3 v4 low high sb base sv cv n i s) (h19 : s.t 19 = .int .i64 (topOf l)) (hL : LW w0 w sb low high base l lv sv cv calls)
    (hQ : ∀ (s : Fr) (w' : World) base' l' lv' sv', SL v3 v4 low high sb base' sv' cv n i s → LW w0 w' sb low high base' l' lv' sv' cv calls → Q .normal s w') :
    FW Try.prog 448 none (sub body3 [0,1,1,1,0,1,0,1,1,1,0,0,1,1,0,0,1,0,1,1,1,1,1,1]) Q s w := by
  obtain ⟨h3, h4, h11, h12, h13, h15, h16, h106, h107, h108, hds⟩ := hs
  have hwf := hL.wf
  have hb1 := hwf.b1
  have hlen := hwf.len
  rcases row_top hL.rs with ⟨rfl, ad, cap, rfl⟩ | ⟨g, cap, rfl, p1, p2, p3, p4⟩
  · have ht : topOf [] = 0 := rfl
    rw [ht] at h19
    refine at_seq rfl fun K12 hK12 => ?_
    (conv => arg 4; whnf)
    refine fw_region_lit rfl ?_
    simp [go_sem, opsF, opF, upF, Region.wanted, Fr.ev, Fr.put, thenE, inBlockE, Oper.semAt, yieldF, h3, h4, h11, h12, h13, h15, h16, h19, h106, h107, h108]
    refine on_kf hK12 [(3, _), (4, _), (11, _), (12, _), (13, _), (15, _), (16, _), (19, _), (24, _), (106, _), (107, _), (108, _)] (fa_cons h3 (fa_cons h4 (fa_cons h11 (fa_cons h12 (fa_cons h13 (fa_cons h15 (fa_cons h16 (fa_cons h19 (fa_cons (by simp [h3, h4, h11, h12, h13, h15, h16, h19, h106, h107, h108] <;> rfl) (fa_cons h106 (fa_cons h107 (fa_cons h108 fa_nil)))))))))))) hds ?_
    clear hK12 h3 h4 h11 h12 h13 h15 h16 h19 h106 h107 h108 hds; intro s hs hds
    obtain ⟨h3, h4, h11, h12, h13, h15, h16, h19, h24, h106, h107, h108⟩ := facts12 hs; clear hs
    refine at_seq rfl fun K13 hK13 => ?_
    refine at_seq rfl fun K14 hK14 => ?_
    (conv => arg 4; whnf)
    refine fw_region_lit rfl ?_
    simp [go_sem, opsF, opF, upF, Region.wanted, Fr.ev, Fr.put, thenE, inBlockE, Oper.semAt, yieldF, h3, h4, h11, h12, h13, h15, h16, h19, h24, h106, h107, h108]
    refine on_kf hK14 [(3, _), (4, _), (11, _), (12, _), (13, _), (15, _), (16, _), (19, _), (24, _), (106, _), (107, _), (108, _), (167, _)] (fa_cons h3 (fa_cons h4 (fa_cons h11 (fa_cons h12 (fa_cons h13 (fa_cons h15 (fa_cons h16 (fa_cons h19 (fa_cons h24 (fa_cons h106 (fa_cons h107 (fa_cons h108 (fa_cons (by simp [h3, h4, h11, h12, h13, h15, h16, h19, h24, h106, h107, h108] <;> rfl) fa_nil))))))))))))) hds ?_
    clear hK14 h3 h4 h11 h12 h13 h15 h16 h19 h24 h106 h107 h108 hds; intro s hs hds
    obtain ⟨h3, h4, h11, h12, h13, h15, h16, h19, h24, h106, h107, h108, h167⟩ := facts13 hs; clear hs
    refine at_false 167 rfl h167 ?_
    refine at_skip rfl ?_
    try simp only [inBlockE, thenE]
    refine hK13 _ _ ?_
    clear hK13
    refine at_seq rfl fun K15 hK15 => ?_
    (conv => arg 4; whnf)
    refine fw_region_lit rfl ?_
    refine ops_take 1 fun KO hKO => ?_
    simp [go_sem, opsF, opF, upF, Region.wanted, Fr.ev, Fr.put, thenE, inBlockE, Oper.semAt, yieldF, h3, h4, h11, h12, h13, h15, h16, h19, h24, h106, h107, h108, h167]
    refine hKO _ _ ?_
    clear hKO
    simp only [List.drop_succ_cons, List.drop_zero]
    refine ops_call rfl rfl rfl call10 (by simp [Fr.ev, h3, h4, h11, h12, h13, h15, h16, h19, h24, h106, h107, h108, h167] <;> rfl) ?_
    refine (pop_any sb base low high lv [] w hL.si g1).on ?_
    rintro v wc hp
    simp only [if_true] at hp
    obtain ⟨rfl, lv', hS, hM⟩ := hp
    simp [go_sem, opsF, opF, upF, Region.wanted, Fr.ev, Fr.put, thenE, inBlockE, Oper.semAt, yieldF, h3, h4, h11, h12, h13, h15, h16, h19, h24, h106, h107, h108, h167]
    refine on_kf hK15 [(3, _), (4, _), (11, _), (12, _), (13, _), (15, _), (16, _), (19, _), (24, _), (25, _), (26, _), (106, _), (107, _), (108, _)] (fa_cons h3 (fa_cons h4 (fa_cons h11 (fa_cons h12 (fa_cons h13 (fa_cons h15 (fa_cons h16 (fa_cons h19 (fa_cons h24 (fa_cons (by simp [h3, h4, h11, h12, h13, h15, h16, h19, h24, h106, h107, h108, h167] <;> rfl) (fa_cons (by simp [h3, h4, h11, h12, h13, h15, h16, h19, h24, h106, h107, h108, h167] <;> rfl) (fa_cons h106 (fa_cons h107 (fa_cons h108 fa_nil)))))))))))))) hds ?_
    clear hK15 h3 h4 h11 h12 h13 h15 h16 h19 h24 h106 h107 h108 h167 hds; intro s hs hds
    obtain ⟨h3, h4, h11, h12, h13, h15, h16, h19, h24, h25, h26, h106, h107, h108⟩ := facts14 hs; clear hs
    refine at_seq rfl fun K16 hK16 => ?_
    (conv => arg 4; whnf)
    refine fw_region_lit rfl ?_
    simp [go_sem, opsF, opF, upF, Region.wanted, Fr.ev, Fr.put, thenE, inBlockE, Oper.semAt, yieldF, h3, h4, h11, h12, h13, h15, h16, h19, h24, h25, h26, h106, h107, h108]
    refine on_kf hK16 [(3, _), (4, _), (11, _), (12, _), (13, _), (15, _), (16, _), (106, _), (107, _), (108, _), (186, _)] (fa_cons h3 (fa_cons h4 (fa_cons h11 (fa_cons h12 (fa_cons h13 (fa_cons h15 (fa_cons h16 (fa_cons h106 (fa_cons h107 (fa_cons h108 (fa_cons (by simp [h3, h4, h11, h12, h13, h15, h16, h19, h24, h25, h26, h106, h107, h108] <;> rfl) fa_nil))))))))))) hds ?_
    clear hK16 h3 h4 h11 h12 h13 h15 h16 h19 h24 h25 h26 h106 h107 h108 hds; intro s hs hds
    obtain ⟨h3, h4, h11, h12, h13, h15, h16, h106, h107, h108, h186⟩ := facts11 hs; clear hs
    refine at_false 186 rfl h186 ?_
    refine at_skip rfl ?_
    try simp only [inBlockE, thenE]
    refine hQ s wc base [] lv' (.slice ad 0 cap) ⟨h3, h4, h11, h12, h13, h15, h16, h106, h107, h108, hds⟩ (hL.turn hM hS hL.rs hL.sep (fun k hk => hL.own k (.inr (.inl hk))) hwf)
  · have hl : l ≠ [] := List.length_pos_iff.1 p1
    have htp := hwf.top hl
    have e0 : 0 < topOf l := by omega
    have d2 : IntKind.i64.wrap ((l.length : Int) - 1) = (l.length : Int) - 1 := IntWalk.i64_in _ (by omega)
    have d3 : 1 ≤ (l.length : Int) := by omega
    have d4 : ((l.length : Int) - 1).toNat = l.length - 1 := by omega
    have d5 : (l.length : Int) - 1 < (l.length : Int) := by omega
    have d6 : (l.length : Int) - 1 ≤ (cap : Int) := by omega
    have hrc : Row w 3 1 (.slice (some ⟨g, 0, none⟩) (l.length - 1) cap) l.dropLast.length (l.dropLast.map (Value.int .i64)) := by
      have := hL.rs.cut (m := l.length - 1) (by omega)
      rw [List.length_dropLast, List.dropLast_eq_take, List.map_take]
      simpa using this
    refine at_seq rfl fun K17 hK17 => ?_
    (conv => arg 4; whnf)
    refine fw_region_lit rfl ?_
    simp [go_sem, opsF, opF, upF, Region.wanted, Fr.ev, Fr.put, thenE, inBlockE, Oper.semAt, yieldF, h3, h4, h11, h12, h13, h15, h16, h19, h106, h107, h108, e0]
    refine on_kf hK17 [(3, _), (4, _), (11, _), (12, _), (13, _), (15, _), (16, _), (19, _), (24, _), (106, _), (107, _), (108, _)] (fa_cons h3 (fa_cons h4 (fa_cons h11 (fa_cons h12 (fa_cons h13 (fa_cons h15 (fa_cons h16 (fa_cons h19 (fa_cons (by simp [h3, h4, h11, h12, h13, h15, h16, h19, h106, h107, h108, e0] <;> rfl) (fa_cons h106 (fa_cons h107 (fa_cons h108 fa_nil)))))))))))) hds ?_
    clear hK17 h3 h4 h11 h12 h13 h15 h16 h19 h106 h107 h108 hds; intro s hs hds
    obtain ⟨h3, h4, h11, h12, h13, h15, h16, h19, h24, h106, h107, h108⟩ := facts12 hs; clear hs
    refine at_seq rfl fun K18 hK18 => ?_
    refine at_seq rfl fun K19 hK19 => ?_
    (conv => arg 4; whnf)
    refine fw_region_lit rfl ?_
    simp [go_sem, opsF, opF, upF, Region.wanted, Fr.ev, Fr.put, thenE, inBlockE, Oper.semAt, yieldF, h3, h4, h11, h12, h13, h15, h16, h19, h24, h106, h107, h108, e0]
    refine on_kf hK19 [(3, _), (4, _), (11, _), (12, _), (13, _), (15, _), (16, _), (19, _), (24, _), (106, _), (107, _), (108, _), (167, _)] (fa_cons h3 (fa_cons h4 (fa_cons h11 (fa_cons h12 (fa_cons h13 (fa_cons h15 (fa_cons h16 (fa_cons h19 (fa_cons h24 (fa_cons h106 (fa_cons h107 (fa_cons h108 (fa_cons (by simp [h3, h4, h11, h12, h13, h15, h16, h19, h24, h106, h107, h108, e0] <;> rfl) fa_nil))))))))))))) hds ?_
    clear hK19 h3 h4 h11 h12 h13 h15 h16 h19 h24 h106 h107 h108 hds; intro s hs hds
    obtain ⟨h3, h4, h11, h12, h13, h15, h16, h19, h24, h106, h107, h108, h167⟩ := facts13 hs; clear hs
    refine at_true 167 rfl h167 ?_
    (conv => arg 4; whnf)
    refine draw_still mixed (by kernel_rfl) rfl fun wd hwd hnd => ?_
    simp [go_sem, stillsF, stillUpF, Region.wanted, Fr.ev, Fr.put, thenE, inBlockE, yieldF, h3, h4, h11, h12, h13, h15, h16, h19, h24, h106, h107, h108, h167, d2, d3, d4, d5, d6]
    refine on_kf hK18 [(3, _), (4, _), (11, _), (12, _), (13, _), (15, _), (16, _), (19, _), (24, _), (106, _), (107, _), (108, _)] (fa_cons h3 (fa_cons h4 (fa_cons h11 (fa_cons h12 (fa_cons h13 (fa_cons (by simp [h3, h4, h11, h12, h13, h15, h16, h19, h24, h106, h107, h108, h167] <;> rfl) (fa_cons (by simp [h3, h4, h11, h12, h13, h15, h16, h19, h24, h106, h107, h108, h167] <;> rfl) (fa_cons h19 (fa_cons (by simp [h3, h4, h11, h12, h13, h15, h16, h19, h24, h106, h107, h108, h167] <;> rfl) (fa_cons h106 (fa_cons h107 (fa_cons h108 fa_nil)))))))))))) hds ?_
    clear hK18 h3 h4 h11 h12 h13 h15 h16 h19 h24 h106 h107 h108 h167 hds; intro s hs hds
    obtain ⟨h3, h4, h11, h12, h13, h15, h16, h19, h24, h106, h107, h108⟩ := facts12 hs; clear hs
    refine at_seq rfl fun K20 hK20 => ?_
    (conv => arg 4; whnf)
    refine fw_region_lit rfl ?_
    refine ops_take 1 fun KO hKO => ?_
    simp [go_sem, opsF, opF, upF, Region.wanted, Fr.ev, Fr.put, thenE, inBlockE, Oper.semAt, yieldF, h3, h4, h11, h12, h13, h15, h16, h19, h24, h106, h107, h108]
    refine hKO _ _ ?_
    clear hKO
    simp only [List.drop_succ_cons, List.drop_zero]
    refine ops_call rfl rfl rfl call10 (by simp [Fr.ev, h3, h4, h11, h12, h13, h15, h16, h19, h24, h106, h107, h108] <;> rfl) ?_
    have hn := hnd
    refine (pop_any sb base low high lv l wd (hL.si.new hnd) g1).on ?_
    rintro v wc hp
    rw [if_neg hl] at hp
    obtain ⟨rfl, lv', hS, hM⟩ := hp
    simp [go_sem, opsF, opF, upF, Region.wanted, Fr.ev, Fr.put, thenE, inBlockE, Oper.semAt, yieldF, h3, h4, h11, h12, h13, h15, h16, h19, h24, h106, h107, h108]
    refine on_kf hK20 [(3, _), (4, _), (11, _), (12, _), (13, _), (15, _), (16, _), (19, _), (24, _), (25, _), (26, _), (106, _), (107, _), (108, _)] (fa_cons h3 (fa_cons h4 (fa_cons h11 (fa_cons h12 (fa_cons h13 (fa_cons h15 (fa_cons h16 (fa_cons h19 (fa_cons h24 (fa_cons (by simp [h3, h4, h11, h12, h13, h15, h16, h19, h24, h106, h107, h108] <;> rfl) (fa_cons (by simp [h3, h4, h11, h12, h13, h15, h16, h19, h24, h106, h107, h108] <;> rfl) (fa_cons h106 (fa_cons h107 (fa_cons h108 fa_nil)))))))))))))) hds ?_
    clear hK20 h3 h4 h11 h12 h13 h15 h16 h19 h24 h106 h107 h108 hds; intro s hs hds
    obtain ⟨h3, h4, h11, h12, h13, h15, h16, h19, h24, h25, h26, h106, h107, h108⟩ := facts14 hs; clear hs
    refine at_seq rfl fun K21 hK21 => ?_
    (conv => arg 4; whnf)
    refine fw_region_lit rfl ?_
    simp [go_sem, opsF, opF, upF, Region.wanted, Fr.ev, Fr.put, thenE, inBlockE, Oper.semAt, yieldF, h3, h4, h11, h12, h13, h15, h16, h19, h24, h25, h26, h106, h107, h108]
    refine on_kf hK21 [(3, _), (4, _), (11, _), (12, _), (13, _), (15, _), (16, _), (106, _), (107, _), (108, _), (186, _)] (fa_cons h3 (fa_cons h4 (fa_cons h11 (fa_cons h12 (fa_cons h13 (fa_cons h15 (fa_cons h16 (fa_cons h106 (fa_cons h107 (fa_cons h108 (fa_cons (by simp [h3, h4, h11, h12, h13, h15, h16, h19, h24, h25, h26, h106, h107, h108] <;> rfl) fa_nil))))))))))) hds ?_
    clear hK21 h3 h4 h11 h12 h13 h15 h16 h19 h24 h25 h26 h106 h107 h108 hds; intro s hs hds
    obtain ⟨h3, h4, h11, h12, h13, h15, h16, h106, h107, h108, h186⟩ := facts11 hs; clear hs
    refine at_false 186 rfl h186 ?_
    refine at_skip rfl ?_
    try simp only [inBlockE, thenE]
    refine hQ s wc (topOf l) l.dropLast lv' (.slice (some ⟨g, 0, none⟩) (l.length - 1) cap) ⟨h3, h4, h11, h12, h13, h15, h16, h106, h107, h108, hds⟩ ((hL.new hnd).turn hM hS (hrc.frm hnd (fun _ _ h => h)) (fun k hk => hL.sep k hk) (fun k hk => hL.own k (.inr (.inl hk))) (hwf.pop hl))
end Go.Proofs.Ytiejaopidkghdac
