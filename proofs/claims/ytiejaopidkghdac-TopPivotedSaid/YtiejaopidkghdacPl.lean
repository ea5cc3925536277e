/- The law's first part: what holds in memory between two calls; the top told. -/
import Derived.Test.YtiejaopidkghdacPk
namespace Go.Proofs.Ytiejaopidkghdac
set_option linter.unusedSimpArgs false
set_option linter.unusedVariables false
open Go.RowKit Go.Lf

def U2.enc (p : Int × Int) : List Value := [.int .u16 p.1, .int .u16 p.2]
theorem U2.enc_len (p : Int × Int) : (U2.enc p).length = 2 := rfl
def u2s (l : List (Int × Int)) : List Value := l.flatMap U2.enc
theorem u2s_len (l : List (Int × Int)) : (u2s l).length = l.length * 2 := flat_length U2.enc 2 U2.enc_len l
theorem u2s_get (l : List (Int × Int)) (i j : Nat) (r : Int × Int) (hr : l[i]? = some r) (hj : j < 2) : (u2s l)[i * 2 + j]? = (U2.enc r)[j]? := by
  rw [u2s, flat_get U2.enc 2 U2.enc_len l i j hj, hr]; rfl
def U2ok (p : Int × Int) : Prop := (0 ≤ p.1 ∧ p.1 ≤ 65535) ∧ (0 ≤ p.2 ∧ p.2 ≤ 65535)

/-- The law's memory between two calls: the stack, the law's own row, the calls. -/
structure LW (w0 w : World) (sb : Nat) (low high base : Int) (l : List Int) (lv sv cv : Value) (calls : List (Int × Int)) : Prop where
  si : SI w sb base low high lv l
  rs : Row w 3 1 sv l.length (l.map (Value.int .i64))
  rc : Row w 31 2 cv calls.length (u2s calls)
  sep : ∀ k, sv.ownBlock = some k → lv.ownBlock ≠ some k
  nw : New w0 w
  gs : w0.heap.size ≤ sb
  own : ∀ k, lv.ownBlock = some k ∨ sv.ownBlock = some k ∨ cv.ownBlock = some k → w0.heap.size ≤ k
  wf : WF base l

section
variable {w0 w w' : World} {sb : Nat} {low high base : Int} {l : List Int} {lv sv cv : Value} {calls : List (Int × Int)}
theorem LW.new (h : LW w0 w sb low high base l lv sv cv calls) (hn : New w w') : LW w0 w' sb low high base l lv sv cv calls :=
  ⟨h.si.new hn, h.rs.frm hn (fun _ _ h => h), h.rc.frm hn (fun _ _ h => h), h.sep, New.trans h.nw hn, h.gs, h.own, h.wf⟩
/-- The stack has turned, and the law's own row is another one. -/
theorem LW.turn {base' : Int} {l' : List Int} {lv' sv' : Value} (h : LW w0 w sb low high base l lv sv cv calls) (hm : Mut w w' sb lv lv') (hs : SI w' sb base' low high lv' l') (hr : Row w 3 1 sv' l'.length (l'.map (Value.int .i64)))
    (hsep : ∀ k, sv'.ownBlock = some k → lv.ownBlock ≠ some k) (hown : ∀ k, sv'.ownBlock = some k → w0.heap.size ≤ k) (hw : WF base' l') : LW w0 w' sb low high base' l' lv' sv' cv calls := by
  have hf := hm.frm
  refine ⟨hs, hr.frm hf ?_, h.rc.frm hf ?_, ?_, Frm.trans h.nw hf ?_, h.gs, ?_, hw⟩
  · rintro k hk (e | e)
    · subst e; exact hr.notBlk h.si.blk (by decide) hk
    · exact hsep k hk e
  · rintro k hk (e | e)
    · subst e; exact h.rc.notBlk h.si.blk (by decide) hk
    · obtain ⟨c1, h1⟩ := h.rc.obj hk
      exact h.si.row.not h1 (by simp) e
  · intro k hk e
    rcases hm.own k e with h1 | h1
    · exact hsep k hk h1
    · have := hr.lt k hk; omega
  · rintro k hk (e | e)
    · subst e; have := h.gs; omega
    · have := h.own k (.inl e); omega
  · rintro k (e | e | e)
    · rcases hm.own k e with h1 | h1
      · exact h.own k (.inl h1)
      · have := h.nw.size; omega
    · exact hown k e
    · exact h.own k (.inr (.inr e))
end

/-- A row of integers: its value, its last element. -/
theorem row_top {w : World} {sv : Value} {l : List Int} (h : Row w 3 1 sv l.length (l.map (Value.int .i64))) : (l = [] ∧ ∃ ad cap, sv = .slice ad 0 cap) ∨
    ∃ g cap, sv = .slice (some ⟨g, 0, none⟩) l.length cap ∧ 0 < l.length ∧ l.length ≤ cap ∧ cap ≤ 9223372036854775807 ∧ w.cell? ⟨g, l.length - 1, none⟩ = some (.int .i64 (topOf l)) := by
  rcases h.val with ⟨hv, hn, hx⟩ | ⟨g, cap, hv, h1, h2⟩
  · refine .inl ⟨by simpa using hx, _, _, hv⟩
  · by_cases hl : l = []
    · subst hl
      exact .inl ⟨rfl, _, _, hv⟩
    · refine .inr ⟨g, cap, hv, by have := List.length_pos_iff.2 hl; omega, h1, h2, ?_⟩
      subst hv
      refine h.cell ?_
      have hpos := List.length_pos_iff.2 hl
      rw [List.getElem?_map, topOf, List.getLast?_eq_getElem?]
      rw [List.getElem?_eq_getElem (by omega)]
      simp

/-- The slots that live between two calls. -/
structure SL (v3 v4 : Value) (low high : Int) (sb : Nat) (base : Int) (sv cv : Value) (n i : Int) (s : Fr) : Prop where
  t3 : s.t 3 = v3
  t4 : s.t 4 = v4
  t11 : s.t 11 = .int .i64 low
  t12 : s.t 12 = .int .i64 high
  t13 : s.t 13 = .pointer (some ⟨sb, 0, none⟩)
  t15 : s.t 15 = .int .i64 base
  t16 : s.t 16 = sv
  t106 : s.t 106 = cv
  t107 : s.t 107 = .int .i64 n
  t108 : s.t 108 = .int .i64 i
  ds : s.ds = []

noncomputable def body3 : Code := Try.f3.body.getD .skip
theorem call3 (args : Array Value) (w : World) : (callFunc 3 args).run Try.prog w = .ok (.enter 3 args) w := callFunc_enter Try.func3 (by kernel_rfl) (by kernel_rfl) args w
set_option maxHeartbeats 1000000 in
/-- The top told ahead of a call. -/
theorem seg11 (s : Fr) (w : World) (Q : Exit → Fr → World → Prop) (v3 v4 : Value) (low high : Int) (sb : Nat) (base : Int) (sv cv : Value) (n i : Int) (v18 : Value) (l : List Int) (hr : Row w 3 1 sv l.length (l.map (Value.int .i64)))
    (hs : SL v3 v4 low high sb base sv cv n i s) (h18 : s.t 18 = v18)
    (hK : ∀ s : Fr, SL v3 v4 low high sb base sv cv n i s → s.t 18 = v18 → s.t 19 = .int .i64 (topOf l) → FW Try.prog 448 none (sub body3 [1,1,1,0,0,1,1,0,0,1,0,1,1,1,1,1,1]) Q s w) :
    FW Try.prog 448 none (sub body3 [1,0,0,1,1,0,0,1,0,1,1,1,1,1,1]) Q s w := by
  obtain ⟨h3, h4, h11, h12, h13, h15, h16, h106, h107, h108, hds⟩ := hs
  rcases row_top hr with ⟨rfl, ad, cap, rfl⟩ | ⟨g, cap, rfl, p1, p2, p3, p4⟩
  · refine at_seq rfl fun K1 hK1 => ?_
    (conv => arg 4; whnf)
    refine fw_region_lit rfl ?_
    simp [go_sem, opsF, opF, upF, Region.wanted, Fr.ev, Fr.put, thenE, inBlockE, Oper.semAt, yieldF, h3, h4, h11, h12, h13, h15, h16, h18, h106, h107, h108]
    refine on_kf hK1 [(3, _), (4, _), (11, _), (12, _), (13, _), (15, _), (16, _), (18, _), (19, _), (106, _), (107, _), (108, _)] (fa_cons h3 (fa_cons h4 (fa_cons h11 (fa_cons h12 (fa_cons h13 (fa_cons h15 (fa_cons h16 (fa_cons h18 (fa_cons (by simp [h3, h4, h11, h12, h13, h15, h16, h18, h106, h107, h108] <;> rfl) (fa_cons h106 (fa_cons h107 (fa_cons h108 fa_nil)))))))))))) hds ?_
    clear hK1 h3 h4 h11 h12 h13 h15 h16 h18 h106 h107 h108 hds; intro s hs hds
    obtain ⟨h3, h4, h11, h12, h13, h15, h16, h18, h19, h106, h107, h108⟩ := facts12 hs; clear hs
    refine at_seq rfl fun K2 hK2 => ?_
    refine at_seq rfl fun K3 hK3 => ?_
    (conv => arg 4; whnf)
    refine fw_region_lit rfl ?_
    simp [go_sem, opsF, opF, upF, Region.wanted, Fr.ev, Fr.put, thenE, inBlockE, Oper.semAt, yieldF, h3, h4, h11, h12, h13, h15, h16, h18, h19, h106, h107, h108]
    refine on_kf hK3 [(3, _), (4, _), (11, _), (12, _), (13, _), (15, _), (16, _), (18, _), (19, _), (106, _), (107, _), (108, _), (114, _)] (fa_cons h3 (fa_cons h4 (fa_cons h11 (fa_cons h12 (fa_cons h13 (fa_cons h15 (fa_cons h16 (fa_cons h18 (fa_cons h19 (fa_cons h106 (fa_cons h107 (fa_cons h108 (fa_cons (by simp [h3, h4, h11, h12, h13, h15, h16, h18, h19, h106, h107, h108] <;> rfl) fa_nil))))))))))))) hds ?_
    clear hK3 h3 h4 h11 h12 h13 h15 h16 h18 h19 h106 h107 h108 hds; intro s hs hds
    obtain ⟨h3, h4, h11, h12, h13, h15, h16, h18, h19, h106, h107, h108, h114⟩ := facts13 hs; clear hs
    refine at_false 114 rfl h114 ?_
    refine at_skip rfl ?_
    try simp only [inBlockE, thenE]
    refine hK2 _ _ ?_
    clear hK2
    exact hK s ⟨h3, h4, h11, h12, h13, h15, h16, h106, h107, h108, hds⟩ h18 h19
  · have d0 : l ≠ [] := List.length_pos_iff.1 p1
    have d2 : IntKind.i64.wrap ((l.length : Int) - 1) = (l.length : Int) - 1 := IntWalk.i64_in _ (by omega)
    have d3 : 1 ≤ (l.length : Int) := by omega
    have d4 : ((l.length : Int) - 1).toNat = l.length - 1 := by omega
    have d5 : (l.length : Int) - 1 < (l.length : Int) := by omega
    refine at_seq rfl fun K4 hK4 => ?_
    (conv => arg 4; whnf)
    refine fw_region_lit rfl ?_
    simp [go_sem, opsF, opF, upF, Region.wanted, Fr.ev, Fr.put, thenE, inBlockE, Oper.semAt, yieldF, h3, h4, h11, h12, h13, h15, h16, h18, h106, h107, h108, p1]
    refine on_kf hK4 [(3, _), (4, _), (11, _), (12, _), (13, _), (15, _), (16, _), (18, _), (19, _), (106, _), (107, _), (108, _)] (fa_cons h3 (fa_cons h4 (fa_cons h11 (fa_cons h12 (fa_cons h13 (fa_cons h15 (fa_cons h16 (fa_cons h18 (fa_cons (by simp [h3, h4, h11, h12, h13, h15, h16, h18, h106, h107, h108, p1] <;> rfl) (fa_cons h106 (fa_cons h107 (fa_cons h108 fa_nil)))))))))))) hds ?_
    clear hK4 h3 h4 h11 h12 h13 h15 h16 h18 h106 h107 h108 hds; intro s hs hds
    obtain ⟨h3, h4, h11, h12, h13, h15, h16, h18, h19, h106, h107, h108⟩ := facts12 hs; clear hs
    refine at_seq rfl fun K5 hK5 => ?_
    refine at_seq rfl fun K6 hK6 => ?_
    (conv => arg 4; whnf)
    refine fw_region_lit rfl ?_
    simp [go_sem, opsF, opF, upF, Region.wanted, Fr.ev, Fr.put, thenE, inBlockE, Oper.semAt, yieldF, h3, h4, h11, h12, h13, h15, h16, h18, h19, h106, h107, h108, p1]
    refine on_kf hK6 [(3, _), (4, _), (11, _), (12, _), (13, _), (15, _), (16, _), (18, _), (19, _), (106, _), (107, _), (108, _), (114, _)] (fa_cons h3 (fa_cons h4 (fa_cons h11 (fa_cons h12 (fa_cons h13 (fa_cons h15 (fa_cons h16 (fa_cons h18 (fa_cons h19 (fa_cons h106 (fa_cons h107 (fa_cons h108 (fa_cons (by simp [h3, h4, h11, h12, h13, h15, h16, h18, h19, h106, h107, h108, p1] <;> rfl) fa_nil))))))))))))) hds ?_
    clear hK6 h3 h4 h11 h12 h13 h15 h16 h18 h19 h106 h107 h108 hds; intro s hs hds
    obtain ⟨h3, h4, h11, h12, h13, h15, h16, h18, h19, h106, h107, h108, h114⟩ := facts13 hs; clear hs
    refine at_true 114 rfl h114 ?_
    (conv => arg 4; whnf)
    refine fw_region_lit rfl ?_
    simp [go_sem, opsF, opF, upF, Region.wanted, Fr.ev, Fr.put, thenE, inBlockE, Oper.semAt, yieldF, h3, h4, h11, h12, h13, h15, h16, h18, h19, h106, h107, h108, h114, d2, d3, d4, d5, p4]
    refine on_kf hK5 [(3, _), (4, _), (11, _), (12, _), (13, _), (15, _), (16, _), (18, _), (19, _), (106, _), (107, _), (108, _)] (fa_cons h3 (fa_cons h4 (fa_cons h11 (fa_cons h12 (fa_cons h13 (fa_cons h15 (fa_cons h16 (fa_cons h18 (fa_cons (by simp [h3, h4, h11, h12, h13, h15, h16, h18, h19, h106, h107, h108, h114, d2, d3, d4, d5, p4] <;> rfl) (fa_cons h106 (fa_cons h107 (fa_cons h108 fa_nil)))))))))))) hds ?_
    clear hK5 h3 h4 h11 h12 h13 h15 h16 h18 h19 h106 h107 h108 h114 hds; intro s hs hds
    obtain ⟨h3, h4, h11, h12, h13, h15, h16, h18, h19, h106, h107, h108⟩ := facts12 hs; clear hs
    exact hK s ⟨h3, h4, h11, h12, h13, h15, h16, h106, h107, h108, hds⟩ h18 h19

set_option maxHeartbeats 1000000 in
/-- The top told behind a call. -/
theorem seg44 (s : Fr) (w : World) (Q : Exit → Fr → World → Prop) (v3 v4 : Value) (low high : Int) (sb : Nat) (base : Int) (sv cv : Value) (n i : Int) (l : List Int) (hr : Row w 3 1 sv l.length (l.map (Value.int .i64)))
    (hs : SL v3 v4 low high sb base sv cv n i s)
    (hK : ∀ s : Fr, SL v3 v4 low high sb base sv cv n i s → s.t 19 = .int .i64 (topOf l) → FW Try.prog 448 none (sub body3 [1,1,1,1,1,1,0,0,1,1,0,0,1,0,1,1,1,1,1,1]) Q s w) :
    FW Try.prog 448 none (sub body3 [1,1,1,1,0,0,1,1,0,0,1,0,1,1,1,1,1,1]) Q s w := by
  obtain ⟨h3, h4, h11, h12, h13, h15, h16, h106, h107, h108, hds⟩ := hs
  rcases row_top hr with ⟨rfl, ad, cap, rfl⟩ | ⟨g, cap, rfl, p1, p2, p3, p4⟩
  · refine at_seq rfl fun K7 hK7 => ?_
    (conv => arg 4; whnf)
    refine fw_region_lit rfl ?_
    simp [go_sem, opsF, opF, upF, Region.wanted, Fr.ev, Fr.put, thenE, inBlockE, Oper.semAt, yieldF, h3, h4, h11, h12, h13, h15, h16, h106, h107, h108]
    refine on_kf hK7 [(3, _), (4, _), (11, _), (12, _), (13, _), (15, _), (16, _), (19, _), (106, _), (107, _), (108, _)] (fa_cons h3 (fa_cons h4 (fa_cons h11 (fa_cons h12 (fa_cons h13 (fa_cons h15 (fa_cons h16 (fa_cons (by simp [h3, h4, h11, h12, h13, h15, h16, h106, h107, h108] <;> rfl) (fa_cons h106 (fa_cons h107 (fa_cons h108 fa_nil))))))))))) hds ?_
    clear hK7 h3 h4 h11 h12 h13 h15 h16 h106 h107 h108 hds; intro s hs hds
    obtain ⟨h3, h4, h11, h12, h13, h15, h16, h19, h106, h107, h108⟩ := facts11 hs; clear hs
    refine at_seq rfl fun K8 hK8 => ?_
    refine at_seq rfl fun K9 hK9 => ?_
    (conv => arg 4; whnf)
    refine fw_region_lit rfl ?_
    simp [go_sem, opsF, opF, upF, Region.wanted, Fr.ev, Fr.put, thenE, inBlockE, Oper.semAt, yieldF, h3, h4, h11, h12, h13, h15, h16, h19, h106, h107, h108]
    refine on_kf hK9 [(3, _), (4, _), (11, _), (12, _), (13, _), (15, _), (16, _), (19, _), (106, _), (107, _), (108, _), (218, _)] (fa_cons h3 (fa_cons h4 (fa_cons h11 (fa_cons h12 (fa_cons h13 (fa_cons h15 (fa_cons h16 (fa_cons h19 (fa_cons h106 (fa_cons h107 (fa_cons h108 (fa_cons (by simp [h3, h4, h11, h12, h13, h15, h16, h19, h106, h107, h108] <;> rfl) fa_nil)))))))))))) hds ?_
    clear hK9 h3 h4 h11 h12 h13 h15 h16 h19 h106 h107 h108 hds; intro s hs hds
    obtain ⟨h3, h4, h11, h12, h13, h15, h16, h19, h106, h107, h108, h218⟩ := facts12 hs; clear hs
    refine at_false 218 rfl h218 ?_
    refine at_skip rfl ?_
    try simp only [inBlockE, thenE]
    refine hK8 _ _ ?_
    clear hK8
    exact hK s ⟨h3, h4, h11, h12, h13, h15, h16, h106, h107, h108, hds⟩ h19
  · have d0 : l ≠ [] := List.length_pos_iff.1 p1
    have d2 : IntKind.i64.wrap ((l.length : Int) - 1) = (l.length : Int) - 1 := IntWalk.i64_in _ (by omega)
    have d3 : 1 ≤ (l.length : Int) := by omega
    have d4 : ((l.length : Int) - 1).toNat = l.length - 1 := by omega
    have d5 : (l.length : Int) - 1 < (l.length : Int) := by omega
    refine at_seq rfl fun K10 hK10 => ?_
    (conv => arg 4; whnf)
    refine fw_region_lit rfl ?_
    simp [go_sem, opsF, opF, upF, Region.wanted, Fr.ev, Fr.put, thenE, inBlockE, Oper.semAt, yieldF, h3, h4, h11, h12, h13, h15, h16, h106, h107, h108, p1]
    refine on_kf hK10 [(3, _), (4, _), (11, _), (12, _), (13, _), (15, _), (16, _), (19, _), (106, _), (107, _), (108, _)] (fa_cons h3 (fa_cons h4 (fa_cons h11 (fa_cons h12 (fa_cons h13 (fa_cons h15 (fa_cons h16 (fa_cons (by simp [h3, h4, h11, h12, h13, h15, h16, h106, h107, h108, p1] <;> rfl) (fa_cons h106 (fa_cons h107 (fa_cons h108 fa_nil))))))))))) hds ?_
    clear hK10 h3 h4 h11 h12 h13 h15 h16 h106 h107 h108 hds; intro s hs hds
    obtain ⟨h3, h4, h11, h12, h13, h15, h16, h19, h106, h107, h108⟩ := facts11 hs; clear hs
    refine at_seq rfl fun K11 hK11 => ?_
    refine at_seq rfl fun K12 hK12 => ?_
    (conv => arg 4; whnf)
    refine fw_region_lit rfl ?_
    simp [go_sem, opsF, opF, upF, Region.wanted, Fr.ev, Fr.put, thenE, inBlockE, Oper.semAt, yieldF, h3, h4, h11, h12, h13, h15, h16, h19, h106, h107, h108, p1]
    refine on_kf hK12 [(3, _), (4, _), (11, _), (12, _), (13, _), (15, _), (16, _), (19, _), (106, _), (107, _), (108, _), (218, _)] (fa_cons h3 (fa_cons h4 (fa_cons h11 (fa_cons h12 (fa_cons h13 (fa_cons h15 (fa_cons h16 (fa_cons h19 (fa_cons h106 (fa_cons h107 (fa_cons h108 (fa_cons (by simp [h3, h4, h11, h12, h13, h15, h16, h19, h106, h107, h108, p1] <;> rfl) fa_nil)))))))))))) hds ?_
    clear hK12 h3 h4 h11 h12 h13 h15 h16 h19 h106 h107 h108 hds; intro s hs hds
    obtain ⟨h3, h4, h11, h12, h13, h15, h16, h19, h106, h107, h108, h218⟩ := facts12 hs; clear hs
    refine at_true 218 rfl h218 ?_
    (conv => arg 4; whnf)
    refine fw_region_lit rfl ?_
    simp [go_sem, opsF, opF, upF, Region.wanted, Fr.ev, Fr.put, thenE, inBlockE, Oper.semAt, yieldF, h3, h4, h11, h12, h13, h15, h16, h19, h106, h107, h108, h218, d2, d3, d4, d5, p4]
    refine on_kf hK11 [(3, _), (4, _), (11, _), (12, _), (13, _), (15, _), (16, _), (19, _), (106, _), (107, _), (108, _)] (fa_cons h3 (fa_cons h4 (fa_cons h11 (fa_cons h12 (fa_cons h13 (fa_cons h15 (fa_cons h16 (fa_cons (by simp [h3, h4, h11, h12, h13, h15, h16, h19, h106, h107, h108, h218, d2, d3, d4, d5, p4] <;> rfl) (fa_cons h106 (fa_cons h107 (fa_cons h108 fa_nil))))))))))) hds ?_
    clear hK11 h3 h4 h11 h12 h13 h15 h16 h19 h106 h107 h108 h218 hds; intro s hs hds
    obtain ⟨h3, h4, h11, h12, h13, h15, h16, h19, h106, h107, h108⟩ := facts11 hs; clear hs
    exact hK s ⟨h3, h4, h11, h12, h13, h15, h16, h106, h107, h108, hds⟩ h19
end Go.Proofs.Ytiejaopidkghdac
