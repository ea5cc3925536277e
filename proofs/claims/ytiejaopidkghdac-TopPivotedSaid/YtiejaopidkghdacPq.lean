/- The law's second part: the map of the pairs; the law's own way through the plan. -/
import Derived.Test.YtiejaopidkghdacPp
namespace Go.Lf
open Go
theorem MapIs.look1 {P : Program} {k : TypeId} {w : World} {b : Nat} {F : Value → Option Value} (h : MapIs P k w b F) (K : Maps.Keyed P k) {t e : TypeId} (ht : P.underlying t = some (.map k e)) {z : Value} (hz : (zeroValue e).run P w = .ok z w) {key : Value} {kl : Lit} (hkey : keyOf P k key = some kl) :
    (Instr.lookup t (.map (some b)) key false).run P w = .ok (match F key with | some v => v | none => z) w := by
  obtain ⟨es, clock, hb, hks, hd, hF⟩ := h
  rcases K.find w hkey es.toList hks with ⟨hrun, hne⟩ | ⟨j, e0, hrun, hj, hk⟩
  · have hn : F key = none := by
      cases hf : F key with
      | none => rfl
      | some v =>
        obtain ⟨x, hx, hxk, _⟩ := (hF key v).1 hf
        exact absurd hxk (hne x hx)
    rw [hn]
    simp [Instr.lookup, Sem.run_bind, run_underlying ht, getObj, Sem.run, hb, Result.andThen, K.check w _ hkey, hrun, hz]
  · have hs : F key = some e0.val := (hF key _).2 ⟨e0, List.mem_of_getElem? hj, hk, rfl⟩
    rw [hs]
    simp [Instr.lookup, Sem.run_bind, run_underlying ht, getObj, Sem.run, hb, Result.andThen, K.check w _ hkey, hrun]
end Go.Lf
namespace Go.Proofs.Ytiejaopidkghdac
set_option linter.unusedSimpArgs false
set_option linter.unusedVariables false
open Go.RowKit Go.Lf

theorem zero4 (w : World) : (zeroValue 4).run Try.prog w = .ok (.bool false) w := by simp [go_sem]

def MaI (w0 : World) (low high : Int) (mb : Nat) (pv : Value) (ps : List (Int × Int)) (m : Nat) (s : Fr) (w : World) : Prop :=
  ∃ (i : Nat) (F : Value → Option Value), i ≤ ps.length ∧ m = ps.length - i ∧ HasP F (holdOf (ps.take i)) (.bool true) ∧ PR w0 w pv ps ∧ MapIs Try.prog 39 w mb F ∧ s.ds = [] ∧
    s.t 11 = .int .i64 low ∧ s.t 12 = .int .i64 high ∧ s.t 29 = pv ∧ s.t 35 = .map (some mb) ∧ s.t 316 = pv ∧ s.t 317 = .int .i64 (ps.length : Int) ∧ s.t 318 = .int .i64 (i : Int)

set_option maxHeartbeats 4000000 in
theorem loop_map (s : Fr) (w0 w : World) (K : Fr → World → Prop) (Q : Exit → Fr → World → Prop) (low high : Int) (mb : Nat) (pv : Value) (ps : List (Int × Int)) (hmb : w0.heap.size ≤ mb) (hl : ps.length ≤ 100000)
    (h0 : MaI w0 low high mb pv ps ps.length s w) (hK : ∀ s w, MaI w0 low high mb pv ps 0 s w → K s w) : FW Try.prog 448 none (sub body3 [1,0,1,1,1,1,1,1,1,1,1,1,1]) (thenE K Q) s w := by
  refine at_block 9 rfl ?_
  refine at_loop rfl (MaI w0 low high mb pv ps) ps.length h0 ?_
  clear h0 s w
  rintro m s w ⟨i, F, hi, rfl, hF, hP, hM, hds, h11, h12, h29, h35, h316, h317, h318⟩
  by_cases hlt : i < ps.length
  · have d0 : (i : Int) < (ps.length : Int) := by omega
    have d1 : IntKind.i64.wrap ((i : Int) + 1) = (i : Int) + 1 := IntWalk.i64_in _ (by omega)
    obtain ⟨r, hri⟩ : ∃ r, ps[i]? = some r := ⟨ps[i], by simp [hlt]⟩
    obtain ⟨g, cap, rfl, hcap, hmax⟩ : ∃ g cap, pv = .slice (some ⟨g, 0, none⟩) ps.length cap ∧ ps.length ≤ cap ∧ cap ≤ maxLen := by
      rcases hP.row.val with ⟨_, h, _⟩ | h
      · omega
      · exact h
    have e0 : w.cell? ⟨g, i * 2, none⟩ = some (.int .i64 r.1) := hP.row.cell (prs_get ps i 0 r hri (by decide))
    have e1 : w.cell? ⟨g, i * 2 + 1, none⟩ = some (.int .i64 r.2) := hP.row.cell (prs_get ps i 1 r hri (by decide))
    have hA := Frm.alloc (fun _ => False) w (.cells #[.int .i64 r.1, .int .i64 r.2] 39)
    have hb37 := Blk.new w #[.int .i64 r.1, .int .i64 r.2] 39
    refine at_seq rfl fun K1 hK1 => ?_
    (conv => arg 4; whnf)
    refine fw_region_lit rfl ?_
    simp [go_sem, opsF, opF, upF, Region.wanted, Fr.ev, Fr.put, thenE, inBlockE, Oper.semAt, yieldF, h11, h12, h29, h35, h316, h317, h318, d0]
    refine on_kf hK1 [(11, _), (12, _), (29, _), (35, _), (316, _), (317, _), (318, _), (319, _)] (fa_cons h11 (fa_cons h12 (fa_cons h29 (fa_cons h35 (fa_cons h316 (fa_cons h317 (fa_cons h318 (fa_cons (by simp [h11, h12, h29, h35, h316, h317, h318, d0] <;> rfl) fa_nil)))))))) hds ?_
    clear hK1 h11 h12 h29 h35 h316 h317 h318 hds; intro s hs hds
    obtain ⟨h11, h12, h29, h35, h316, h317, h318, h319⟩ := facts8 hs; clear hs
    refine at_seq rfl fun K2 hK2 => ?_
    refine at_true 319 rfl h319 ?_
    refine at_skip rfl ?_
    try simp only [inBlockE, thenE]
    refine hK2 _ _ ?_
    clear hK2
    refine at_seq rfl fun K3 hK3 => ?_
    refine at_block 10 rfl ?_
    refine at_seq rfl fun K4 hK4 => ?_
    (conv => arg 4; whnf)
    refine fw_region_lit rfl ?_
    simp [go_sem, opsF, opF, upF, Region.wanted, Fr.ev, Fr.put, thenE, inBlockE, Oper.semAt, yieldF, h11, h12, h29, h35, h316, h317, h318, h319, hlt, e0, e1]
    refine on_kf hK4 [(11, _), (12, _), (29, _), (35, _), (37, _), (316, _), (317, _), (318, _)] (fa_cons h11 (fa_cons h12 (fa_cons h29 (fa_cons h35 (fa_cons (by simp [h11, h12, h29, h35, h316, h317, h318, h319, hlt, e0, e1] <;> rfl) (fa_cons h316 (fa_cons h317 (fa_cons h318 fa_nil)))))))) hds ?_
    clear hK4 h11 h12 h29 h35 h316 h317 h318 h319 hds; intro s hs hds
    obtain ⟨h11, h12, h29, h35, h37, h316, h317, h318⟩ := facts8 hs; clear hs
    have hP1 := hP.new hA
    have hM1 := hM.frm hA (fun h => h)
    generalize w.alloc (.cells #[.int .i64 r.1, .int .i64 r.2] 39) = w1 at *
    generalize w.heap.size = b37 at *
    have hbr := hP.ok r (List.mem_of_getElem? hri)
    obtain ⟨kl, hkey⟩ := spot_key (a := r.1) (b := r.2) (by omega) (by omega)
    obtain ⟨o, hup, hm3⟩ := hM1.update key39 Try.underlying40 hkey (.bool true)
    simp only [spot] at hup
    have y0 := hb37.cell 0
    have y1 := hb37.cell 1
    have hF3 := hF.put r
    have htk : ps.take i ++ [r] = ps.take (i + 1) := by rw [List.take_add_one, hri]; rfl
    rw [htk] at hF3
    have hput := Frm.putObj (S := fun b => b = mb) w1 mb o rfl
    have hP2 : PR w0 (w1.putObj mb o) (.slice (some ⟨g, 0, none⟩) ps.length cap) ps := by
      obtain ⟨es, ck, hmo, _⟩ := hM1
      exact ⟨hP1.row.frm hput (fun k hk e => hP1.row.not hmo (by simp) (e ▸ hk)), Frm.trans hP1.nw hput (fun b hb e => by omega), hP1.own, hP1.ok⟩
    (conv => arg 4; whnf)
    refine fw_region_lit rfl ?_
    simp [go_sem, opsF, opF, upF, Region.wanted, Fr.ev, Fr.put, thenE, inBlockE, Oper.semAt, yieldF, h11, h12, h29, h35, h37, h316, h317, h318, y0, y1, hup]
    refine on_kf hK3 [(11, _), (12, _), (29, _), (35, _), (316, _), (317, _), (318, _)] (fa_cons h11 (fa_cons h12 (fa_cons h29 (fa_cons h35 (fa_cons h316 (fa_cons h317 (fa_cons h318 fa_nil))))))) hds ?_
    clear hK3 h11 h12 h29 h35 h37 h316 h317 h318 hds; intro s hs hds
    obtain ⟨h11, h12, h29, h35, h316, h317, h318⟩ := facts7 hs; clear hs
    (conv => arg 4; whnf)
    refine fw_region_lit rfl ?_
    simp [go_sem, opsF, opF, upF, Region.wanted, Fr.ev, Fr.put, thenE, inBlockE, Oper.semAt, yieldF, h11, h12, h29, h35, h316, h317, h318, d1]
    exact ⟨ps.length - (i + 1), by omega, i + 1, _, by omega, rfl, hF3, hP2, hm3, hds, by simp [h11], by simp [h12], by simp [h29], by simp [h35], by simp [h316], by simp [h317], by simp⟩
  · have d0 : ¬ (i : Int) < (ps.length : Int) := by omega
    refine at_seq rfl fun K5 hK5 => ?_
    (conv => arg 4; whnf)
    refine fw_region_lit rfl ?_
    simp [go_sem, opsF, opF, upF, Region.wanted, Fr.ev, Fr.put, thenE, inBlockE, Oper.semAt, yieldF, h11, h12, h29, h35, h316, h317, h318, d0]
    refine on_kf hK5 [(11, _), (12, _), (29, _), (35, _), (316, _), (317, _), (318, _), (319, _)] (fa_cons h11 (fa_cons h12 (fa_cons h29 (fa_cons h35 (fa_cons h316 (fa_cons h317 (fa_cons h318 (fa_cons (by simp [h11, h12, h29, h35, h316, h317, h318, d0] <;> rfl) fa_nil)))))))) hds ?_
    clear hK5 h11 h12 h29 h35 h316 h317 h318 hds; intro s hs hds
    obtain ⟨h11, h12, h29, h35, h316, h317, h318, h319⟩ := facts8 hs; clear hs
    refine at_seq rfl fun K6 hK6 => ?_
    refine at_false 319 rfl h319 ?_
    refine at_exit 9 rfl ?_
    simp only [inBlockE, thenE, if_true]
    exact hK s w ⟨i, F, hi, by omega, hF, hP, hM, hds, h11, h12, h29, h35, h316, h317, h318⟩

/-- The law's memory while it goes through the plan. -/
structure TL (w0 w : World) (mb : Nat) (F : Value → Option Value) (pv : Value) (ps : List (Int × Int)) (sv av tv : Value) (l qs : List Int) (ts : List Tr) : Prop where
  pr : PR w0 w pv ps
  mp : MapIs Try.prog 39 w mb F
  rs : Row w 3 1 sv l.length (l.map (Value.int .i64))
  ra : Row w 3 1 av qs.length (qs.map (Value.int .i64))
  rt : Row w 43 3 tv ts.length (trs ts)
  sep : ∀ k, sv.ownBlock = some k → av.ownBlock ≠ some k
  own : ∀ k, sv.ownBlock = some k ∨ av.ownBlock = some k ∨ tv.ownBlock = some k → w0.heap.size ≤ k

section
variable {w0 w w' : World} {mb : Nat} {F : Value → Option Value} {pv : Value} {ps : List (Int × Int)} {sv av tv : Value} {l qs : List Int} {ts : List Tr}
theorem TL.new (h : TL w0 w mb F pv ps sv av tv l qs ts) (hn : New w w') : TL w0 w' mb F pv ps sv av tv l qs ts :=
  ⟨h.pr.new hn, h.mp.frm hn (fun h => h), h.rs.frm hn (fun _ _ h => h), h.ra.frm hn (fun _ _ h => h), h.rt.frm hn (fun _ _ h => h), h.sep, h.own⟩

theorem rows_ne {w : World} {T T' z z' n n' : Nat} {u v : Value} {xs ys : List Value} (h : Row w T z u n xs) (h' : Row w T' z' v n' ys) (hne : T ≠ T') {k : Nat} (hk : u.ownBlock = some k) : v.ownBlock ≠ some k := by
  obtain ⟨c1, h1⟩ := h.obj hk
  exact h'.not h1 (by intro cur e; cases e; exact hne rfl)

/-- One try more. -/
theorem TL.try (h : TL w0 w mb F pv ps sv av tv l qs ts) (t : Tr) (hl : ts.length ≤ 1000000) :
    ∃ v' w2, (Builtin.append_ #[41, 41] 41 #[tv, .slice (some ⟨w.heap.size, 0, none⟩) 1 1]).run Try.prog (w.alloc (.cells #[.int .i64 t.fr, .int .i64 t.to, .bool t.held] 43)) = .ok v' w2 ∧ TL w0 w2 mb F pv ps sv av v' l qs (ts ++ [t]) := by
  obtain ⟨v', w2, hap, hr, hf, ho⟩ := h.rt.grow (P := Try.prog) (S := 41) (ty := 41) Try.underlying41 info43 rfl (by decide) [.int .i64 t.fr, .int .i64 t.to, .bool t.held] rfl (by simp [Value.oneCell']) (by unfold maxLen; omega) (by omega)
  obtain ⟨es, ck, hmo, _⟩ := h.mp
  refine ⟨v', w2, hap, ⟨⟨h.pr.row.frm hf (fun k hk e => rows_ne h.pr.row h.rt (by decide) hk e), Frm.trans h.pr.nw hf (fun k hk e => by have := h.own k (.inr (.inr e)); omega), h.pr.own, h.pr.ok⟩, h.mp.frm hf (fun e => h.rt.not hmo (by simp) e), h.rs.frm hf (fun k hk e => rows_ne h.rs h.rt (by decide) hk e), h.ra.frm hf (fun k hk e => rows_ne h.ra h.rt (by decide) hk e), by simpa [trs, Tr.enc] using hr, h.sep, ?_⟩⟩
  rintro k (e | e | e)
  · exact h.own k (.inl e)
  · exact h.own k (.inr (.inl e))
  · rcases ho k e with h1 | h1
    · exact h.own k (.inr (.inr h1))
    · have := h.pr.nw.size; omega

/-- One height more on the law's stack. -/
theorem TL.push (h : TL w0 w mb F pv ps sv av tv l qs ts) (x : Int) (hl : l.length ≤ 1000000) :
    ∃ v' w2, (Builtin.append_ #[30, 30] 30 #[sv, .slice (some ⟨w.heap.size, 0, none⟩) 1 1]).run Try.prog (w.alloc (.cells #[.int .i64 x] 3)) = .ok v' w2 ∧ TL w0 w2 mb F pv ps v' av tv (l ++ [x]) qs ts := by
  obtain ⟨v', w2, hap, hr, hf, ho⟩ := h.rs.grow (P := Try.prog) (S := 30) (ty := 30) Try.underlying30 info3 rfl (by decide) [.int .i64 x] rfl (by simp [Value.oneCell']) (by unfold maxLen; omega) (by omega)
  obtain ⟨es, ck, hmo, _⟩ := h.mp
  refine ⟨v', w2, hap, ⟨⟨h.pr.row.frm hf (fun k hk e => rows_ne h.pr.row h.rs (by decide) hk e), Frm.trans h.pr.nw hf (fun k hk e => by have := h.own k (.inl e); omega), h.pr.own, h.pr.ok⟩, h.mp.frm hf (fun e => h.rs.not hmo (by simp) e), by simpa using hr, h.ra.frm hf (fun k hk e => h.sep k e hk), h.rt.frm hf (fun k hk e => rows_ne h.rt h.rs (by decide) hk e), ?_, ?_⟩⟩
  · intro k hk e
    rcases ho k hk with h1 | h1
    · exact h.sep k h1 e
    · have := h.ra.lt k e; omega
  · rintro k (e | e | e)
    · rcases ho k e with h1 | h1
      · exact h.own k (.inl h1)
      · have := h.pr.nw.size; omega
    · exact h.own k (.inr (.inl e))
    · exact h.own k (.inr (.inr e))

/-- One height more that is asked for. -/
theorem TL.ask (h : TL w0 w mb F pv ps sv av tv l qs ts) (x : Int) (hl : qs.length ≤ 1000000) :
    ∃ v' w2, (Builtin.append_ #[30, 30] 30 #[av, .slice (some ⟨w.heap.size, 0, none⟩) 1 1]).run Try.prog (w.alloc (.cells #[.int .i64 x] 3)) = .ok v' w2 ∧ TL w0 w2 mb F pv ps sv v' tv l (qs ++ [x]) ts := by
  obtain ⟨v', w2, hap, hr, hf, ho⟩ := h.ra.grow (P := Try.prog) (S := 30) (ty := 30) Try.underlying30 info3 rfl (by decide) [.int .i64 x] rfl (by simp [Value.oneCell']) (by unfold maxLen; omega) (by omega)
  obtain ⟨es, ck, hmo, _⟩ := h.mp
  refine ⟨v', w2, hap, ⟨⟨h.pr.row.frm hf (fun k hk e => rows_ne h.pr.row h.ra (by decide) hk e), Frm.trans h.pr.nw hf (fun k hk e => by have := h.own k (.inr (.inl e)); omega), h.pr.own, h.pr.ok⟩, h.mp.frm hf (fun e => h.ra.not hmo (by simp) e), h.rs.frm hf (fun k hk e => h.sep k hk e), by simpa using hr, h.rt.frm hf (fun k hk e => rows_ne h.rt h.ra (by decide) hk e), ?_, ?_⟩⟩
  · intro k hk e
    rcases ho k e with h1 | h1
    · exact h.sep k hk h1
    · have := h.rs.lt k hk; omega
  · rintro k (e | e | e)
    · exact h.own k (.inl e)
    · rcases ho k e with h1 | h1
      · exact h.own k (.inr (.inl h1))
      · have := h.pr.nw.size; omega
    · exact h.own k (.inr (.inr e))
end
end Go.Proofs.Ytiejaopidkghdac
