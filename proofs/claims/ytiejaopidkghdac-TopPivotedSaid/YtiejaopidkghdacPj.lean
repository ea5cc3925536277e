/- A plan: up to the tries. -/
import Derived.Test.YtiejaopidkghdacPi
namespace Go.Proofs.Ytiejaopidkghdac
set_option linter.unusedSimpArgs false
set_option linter.unusedVariables false
open Go.RowKit Go.Lf

/-- Pairs of heights in memory. -/
def Prs.enc (p : Int × Int) : List Value := [.int .i64 p.1, .int .i64 p.2]
theorem Prs.enc_len (p : Int × Int) : (Prs.enc p).length = 2 := rfl
def prs (l : List (Int × Int)) : List Value := l.flatMap Prs.enc
theorem prs_len (l : List (Int × Int)) : (prs l).length = l.length * 2 := flat_length Prs.enc 2 Prs.enc_len l
theorem prs_get (l : List (Int × Int)) (i j : Nat) (r : Int × Int) (hr : l[i]? = some r) (hj : j < 2) : (prs l)[i * 2 + j]? = (Prs.enc r)[j]? := by
  rw [prs, flat_get Prs.enc 2 Prs.enc_len l i j hj, hr]; rfl

def holdOf (l : List (Int × Int)) : Int → Int → Bool := fun a b => decide ((a, b) ∈ l)

open Classical in
theorem HasP.put {F : Value → Option Value} {l : List (Int × Int)} {v : Value} (h : HasP F (holdOf l) v) (p : Int × Int) : HasP (fun x => if x = spot p.1 p.2 then some v else F x) (holdOf (l ++ [p])) v := by
  intro a b
  show (if spot a b = spot p.1 p.2 then some v else F (spot a b)) = _
  rw [h a b]
  obtain ⟨c, d⟩ := p
  by_cases e : a = c ∧ b = d
  · obtain ⟨rfl, rfl⟩ := e
    simp [holdOf]
  · have h1 : ¬ spot a b = spot c d := fun h => e (spot_inj h)
    have h2 : ¬ (a, b) = (c, d) := fun h => e (by cases h; exact ⟨rfl, rfl⟩)
    rw [if_neg h1]
    simp [holdOf, h2]

/-- A plan's memory ahead of the tries. -/
structure PM (w0 w : World) (b6 b7 b10 b11 mb sb : Nat) (F : Value → Option Value) (low high : Int) (lv : Value) : Prop where
  c6 : Blk w b6 #[.slice none 0 0] 41
  c7 : Blk w b7 #[.slice none 0 0] 30
  c10 : Blk w b10 #[.pointer (some ⟨sb, 0, none⟩)] 24
  c11 : Blk w b11 #[.map (some mb)] 57
  mp : MapIs Try.prog 39 w mb F
  si : SI w sb low low high lv [high]
  nw : New w0 w
  g6 : w0.heap.size ≤ b6
  g7 : w0.heap.size ≤ b7
  gm : w0.heap.size ≤ mb
  gs : w0.heap.size ≤ sb
  gl : ∀ k, lv.ownBlock = some k → w0.heap.size ≤ k

section
variable {w0 w w' : World} {b6 b7 b10 b11 mb sb : Nat} {F : Value → Option Value} {low high : Int} {lv : Value}
theorem PM.new (h : PM w0 w b6 b7 b10 b11 mb sb F low high lv) (hn : New w w') : PM w0 w' b6 b7 b10 b11 mb sb F low high lv :=
  ⟨h.c6.frm hn (fun h => h), h.c7.frm hn (fun h => h), h.c10.frm hn (fun h => h), h.c11.frm hn (fun h => h), h.mp.frm hn (fun h => h), h.si.new hn, New.trans h.nw hn, h.g6, h.g7, h.gm, h.gs, h.gl⟩
theorem PM.map {o : Obj} {F' : Value → Option Value} (h : PM w0 w b6 b7 b10 b11 mb sb F low high lv) (hm : MapIs Try.prog 39 (w.putObj mb o) mb F') : PM w0 (w.putObj mb o) b6 b7 b10 b11 mb sb F' low high lv := by
  have hf := Frm.putObj (S := fun b => b = mb) w mb o rfl
  obtain ⟨es, ck, hmb, _⟩ := h.mp
  have nb : ∀ {b c T}, Blk w b c T → ¬ b = mb := fun hb e => obj_ne hb hmb (by simp) e
  exact ⟨h.c6.frm hf (nb h.c6), h.c7.frm hf (nb h.c7), h.c10.frm hf (nb h.c10), h.c11.frm hf (nb h.c11), hm, h.si.frm hf (nb h.si.blk) (fun k hk e => h.si.row.not hmb (by simp) (e ▸ hk)),
    Frm.trans h.nw hf (fun b hb e => by subst e; have := h.gm; omega), h.g6, h.g7, h.gm, h.gs, h.gl⟩
end

def PaI (w0 : World) (b6 b7 b10 b11 mb sb : Nat) (low high : Int) (lv pv : Value) (pairs : List (Int × Int)) (m : Nat) (s : Fr) (w : World) : Prop :=
  ∃ (i : Nat) (F : Value → Option Value), i ≤ pairs.length ∧ m = pairs.length - i ∧ HasP F (holdOf (pairs.take i)) (.agg #[]) ∧ PM w0 w b6 b7 b10 b11 mb sb F low high lv ∧ s.ds = [] ∧
    s.t 1 = .int .i64 high ∧ s.t 6 = .pointer (some ⟨b6, 0, none⟩) ∧ s.t 7 = .pointer (some ⟨b7, 0, none⟩) ∧ s.t 10 = .pointer (some ⟨b10, 0, none⟩) ∧ s.t 11 = .pointer (some ⟨b11, 0, none⟩) ∧ s.t 33 = pv ∧ s.t 34 = .int .i64 (pairs.length : Int) ∧ s.t 35 = .int .i64 (i : Int)

noncomputable def body15 : Code := Try.f15.body.getD .skip
theorem call15 (args : Array Value) (w : World) : (callFunc 15 args).run Try.prog w = .ok (.enter 15 args) w := callFunc_enter Try.func15 (by kernel_rfl) (by kernel_rfl) args w
set_option maxHeartbeats 1000000 in
/-- The loop over the pairs. -/
theorem plan_pairs (s : Fr) (w : World) (K : Fr → World → Prop) (Q : Exit → Fr → World → Prop) (w0 : World) (b6 b7 b10 b11 mb sb : Nat) (low high : Int) (lv pv : Value) (pairs : List (Int × Int)) (hpv : Row w0 39 2 pv pairs.length (prs pairs)) (hl : pairs.length ≤ 100000) (hb : ∀ p ∈ pairs, (0 ≤ p.1 ∧ p.1 ≤ 1000000) ∧ (0 ≤ p.2 ∧ p.2 ≤ 1000000))
    (h0 : PaI w0 b6 b7 b10 b11 mb sb low high lv pv pairs pairs.length s w) (hK : ∀ s w, PaI w0 b6 b7 b10 b11 mb sb low high lv pv pairs 0 s w → K s w) :
    FW Try.prog 70 none (sub body15 [1,0,1,1,1,1]) (thenE K Q) s w := by
  refine at_block 1 rfl ?_
  refine at_loop rfl (PaI w0 b6 b7 b10 b11 mb sb low high lv pv pairs) pairs.length h0 ?_
  clear h0 s w
  rintro m s w ⟨i, F, hi, rfl, hF, hM, hds, h1, h6, h7, h10, h11, h33, h34, h35⟩
  by_cases hlt : i < pairs.length
  · have d0 : (i : Int) < (pairs.length : Int) := by omega
    have d1 : IntKind.i64.wrap ((i : Int) + 1) = (i : Int) + 1 := IntWalk.i64_in _ (by omega)
    obtain ⟨r, hri⟩ : ∃ r, pairs[i]? = some r := ⟨pairs[i], by simp [hlt]⟩
    obtain ⟨g, cap, rfl, hcap, hmax⟩ : ∃ g cap, pv = .slice (some ⟨g, 0, none⟩) pairs.length cap ∧ pairs.length ≤ cap ∧ cap ≤ maxLen := by
      rcases hpv.val with ⟨_, h, _⟩ | h
      · omega
      · exact h
    have hpw := hpv.frm hM.nw (fun _ _ h => h)
    have e0 : w.cell? ⟨g, i * 2, none⟩ = some (.int .i64 r.1) := hpw.cell (prs_get pairs i 0 r hri (by decide))
    have e1 : w.cell? ⟨g, i * 2 + 1, none⟩ = some (.int .i64 r.2) := hpw.cell (prs_get pairs i 1 r hri (by decide))
    refine at_seq rfl fun K1 hK1 => ?_
    (conv => arg 4; whnf)
    refine fw_region_lit rfl ?_
    simp [go_sem, opsF, opF, upF, Region.wanted, Fr.ev, Fr.put, thenE, inBlockE, Oper.semAt, yieldF, h1, h6, h7, h10, h11, h33, h34, h35, d0]
    refine on_kf hK1 [(1, _), (6, _), (7, _), (10, _), (11, _), (33, _), (34, _), (35, _), (36, _)] (fa_cons h1 (fa_cons h6 (fa_cons h7 (fa_cons h10 (fa_cons h11 (fa_cons h33 (fa_cons h34 (fa_cons h35 (fa_cons (by simp [h1, h6, h7, h10, h11, h33, h34, h35, d0] <;> rfl) fa_nil))))))))) hds ?_
    clear hK1 h1 h6 h7 h10 h11 h33 h34 h35 hds; intro s hs hds
    obtain ⟨h1, h6, h7, h10, h11, h33, h34, h35, h36⟩ := facts9 hs; clear hs
    refine at_seq rfl fun K2 hK2 => ?_
    refine at_true 36 rfl h36 ?_
    refine at_skip rfl ?_
    try simp only [inBlockE, thenE]
    refine hK2 _ _ ?_
    clear hK2
    refine at_seq rfl fun K3 hK3 => ?_
    refine at_block 2 rfl ?_
    refine at_seq rfl fun K4 hK4 => ?_
    (conv => arg 4; whnf)
    refine fw_region_lit rfl ?_
    simp [go_sem, opsF, opF, upF, Region.wanted, Fr.ev, Fr.put, thenE, inBlockE, Oper.semAt, yieldF, h1, h6, h7, h10, h11, h33, h34, h35, h36, hlt, e0, e1]
    refine on_kf hK4 [(1, _), (6, _), (7, _), (10, _), (11, _), (13, _), (33, _), (34, _), (35, _)] (fa_cons h1 (fa_cons h6 (fa_cons h7 (fa_cons h10 (fa_cons h11 (fa_cons (by simp [h1, h6, h7, h10, h11, h33, h34, h35, h36, hlt, e0, e1] <;> rfl) (fa_cons h33 (fa_cons h34 (fa_cons h35 fa_nil))))))))) hds ?_
    clear hK4 h1 h6 h7 h10 h11 h33 h34 h35 h36 hds; intro s hs hds
    obtain ⟨h1, h6, h7, h10, h11, h13, h33, h34, h35⟩ := facts9 hs; clear hs
    have hA := Frm.alloc (fun _ => False) w (.cells #[.int .i64 r.1, .int .i64 r.2] 39)
    have hb13 := Blk.new w #[.int .i64 r.1, .int .i64 r.2] 39
    generalize w.alloc (.cells #[.int .i64 r.1, .int .i64 r.2] 39) = w2 at *
    generalize w.heap.size = b13 at *
    have hM2 := hM.new hA
    have hbr := hb r (List.mem_of_getElem? hri)
    obtain ⟨kl, hkey⟩ := spot_key (a := r.1) (b := r.2) (by omega) (by omega)
    obtain ⟨o, hup, hm3⟩ := hM2.mp.update key39 Try.underlying57 hkey (.agg #[])
    simp only [spot] at hup
    have y0 := hb13.cell 0
    have y1 := hb13.cell 1
    have c11 := hM2.c11.cell 0
    have hM3 := hM2.map hm3
    have hF3 := hF.put r
    have htk : pairs.take i ++ [r] = pairs.take (i + 1) := by rw [List.take_add_one, hri]; rfl
    rw [htk] at hF3
    (conv => arg 4; whnf)
    refine fw_region_lit rfl ?_
    simp [go_sem, opsF, opF, upF, Region.wanted, Fr.ev, Fr.put, thenE, inBlockE, Oper.semAt, yieldF, h1, h6, h7, h10, h11, h13, h33, h34, h35, y0, y1, c11, hup]
    refine on_kf hK3 [(1, _), (6, _), (7, _), (10, _), (11, _), (33, _), (34, _), (35, _)] (fa_cons h1 (fa_cons h6 (fa_cons h7 (fa_cons h10 (fa_cons h11 (fa_cons h33 (fa_cons h34 (fa_cons h35 fa_nil)))))))) hds ?_
    clear hK3 h1 h6 h7 h10 h11 h13 h33 h34 h35 hds; intro s hs hds
    obtain ⟨h1, h6, h7, h10, h11, h33, h34, h35⟩ := facts8 hs; clear hs
    (conv => arg 4; whnf)
    refine fw_region_lit rfl ?_
    simp [go_sem, opsF, opF, upF, Region.wanted, Fr.ev, Fr.put, thenE, inBlockE, Oper.semAt, yieldF, h1, h6, h7, h10, h11, h33, h34, h35, d1]
    exact ⟨pairs.length - (i + 1), by omega, i + 1, _, by omega, rfl, hF3, hM3, hds, by simp [h1], by simp [h6], by simp [h7], by simp [h10], by simp [h11], by simp [h33], by simp [h34], by simp⟩
  · have d0 : ¬ (i : Int) < (pairs.length : Int) := by omega
    refine at_seq rfl fun K5 hK5 => ?_
    (conv => arg 4; whnf)
    refine fw_region_lit rfl ?_
    simp [go_sem, opsF, opF, upF, Region.wanted, Fr.ev, Fr.put, thenE, inBlockE, Oper.semAt, yieldF, h1, h6, h7, h10, h11, h33, h34, h35, d0]
    refine on_kf hK5 [(1, _), (6, _), (7, _), (10, _), (11, _), (33, _), (34, _), (35, _), (36, _)] (fa_cons h1 (fa_cons h6 (fa_cons h7 (fa_cons h10 (fa_cons h11 (fa_cons h33 (fa_cons h34 (fa_cons h35 (fa_cons (by simp [h1, h6, h7, h10, h11, h33, h34, h35, d0] <;> rfl) fa_nil))))))))) hds ?_
    clear hK5 h1 h6 h7 h10 h11 h33 h34 h35 hds; intro s hs hds
    obtain ⟨h1, h6, h7, h10, h11, h33, h34, h35, h36⟩ := facts9 hs; clear hs
    refine at_seq rfl fun K6 hK6 => ?_
    refine at_false 36 rfl h36 ?_
    refine at_exit 1 rfl ?_
    simp only [inBlockE, thenE, if_true]
    exact hK s w ⟨i, F, hi, by omega, hF, hM, hds, h1, h6, h7, h10, h11, h33, h34, h35⟩
end Go.Proofs.Ytiejaopidkghdac
