/- A round that closes. -/
import Derived.Test.YtiejaopidkghdaaFm
namespace Go.Proofs.Ytiejaopidkghdaa
set_option linter.unusedSimpArgs false
set_option linter.unusedVariables false
open Go.RowKit Go.Lf

theorem PI.close {N : Int} {l : List Rq} (hp : PI N l) (i : Nat) (r : Rq) (hr : l[i]? = some r) : PI N (l.set i { r with op := false }) := by
  have hi : i < l.length := (List.getElem?_eq_some_iff.1 hr).1
  have get : ∀ (j : Nat) (x : Rq), (l.set i { r with op := false })[j]? = some x → (j ≠ i ∧ l[j]? = some x) ∨ (j = i ∧ x = { r with op := false }) := by
    intro j x hx
    rw [List.getElem?_set] at hx
    split at hx
    · rename_i e
      subst e
      exact .inr ⟨rfl, (Option.some.inj hx).symm⟩
    · rename_i e
      exact .inl ⟨fun h => e h.symm, hx⟩
  constructor
  · intro j x hx
    rcases get j x hx with ⟨_, hx⟩ | ⟨rfl, rfl⟩
    · exact hp.each j x hx
    · exact hp.each j r hr
  · intro a b x y hx hy ox oy e1 e2
    rcases get a x hx with ⟨_, hx⟩ | ⟨rfl, rfl⟩ <;> rcases get b y hy with ⟨_, hy⟩ | ⟨rfl, rfl⟩
    · exact hp.uniq a b x y hx hy ox oy e1 e2
    · cases oy
    · cases ox
    · rfl

theorem segClose2 (s : Fr) (w : World) (K : Fr → World → Prop) (Q : Exit → Fr → World → Prop) (N : Int) (fb : Nat) (ov rv : Value) (id : Int) (m k : Nat) (d : Int) (R : World → Prop)
    (hs : FS N fb ov rv id m k s) (h23 : s.t 23 = .int .i64 d)
    (hc : CallsV Try.prog 9 #[.pointer (some ⟨fb, 0, none⟩), .int .i64 id] w fun v w' => v = .int .i64 d ∧ R w')
    (hK : ∀ s w', FS N fb ov rv id m k s → R w' → K s w') : FW Try.prog 303 none (sub body3 [1,1,1,1,0,1,1,1,0,0,1,1,0,0,1,0,1,1,1,1,1,1]) (thenE K Q) s w := by
  obtain ⟨h5, h6, h8, h15, h63, h64, h65, hds⟩ := hs
  refine at_seq rfl fun K1 hK1 => ?_
  (conv => arg 4; whnf)
  refine fw_region_lit rfl ?_
  simp [go_sem, opsF, opF, upF, Region.wanted, Fr.ev, Fr.put, thenE, inBlockE, Oper.semAt, yieldF, h5, h6, h8, h15, h23, h63, h64, h65]
  refine hc.on ?_
  rintro v w1 ⟨rfl, hR⟩
  simp [go_sem, opsF, opF, upF, Region.wanted, Fr.ev, Fr.put, thenE, inBlockE, Oper.semAt, yieldF, h5, h6, h8, h15, h23, h63, h64, h65]
  refine on_kf hK1 [(5, .int .i64 N), (6, .pointer (some ⟨fb, 0, none⟩)), (8, ov), (15, .int .i64 id), (63, rv), (64, .int .i64 (m : Int)), (65, .int .i64 (k : Int)), (182, .bool false)] (by simp [h5, h6, h8, h15, h23, h63, h64, h65]) hds ?_
  clear hK1 h5 h6 h8 h15 h23 h63 h64 h65 hds; intro s hs hds
  obtain ⟨h5, h6, h8, h15, h63, h64, h65, h182⟩ := facts8 hs; clear hs
  refine at_false 182 rfl h182 ?_
  refine at_skip rfl ?_
  exact hK _ _ ⟨h5, h6, h8, h15, h63, h64, h65, hds⟩ hR

set_option maxHeartbeats 1000000 in
theorem segClose (s : Fr) (w0 w : World) (K : Fr → World → Prop) (Q : Exit → Fr → World → Prop) (N : Int) (fb : Nat) (l : List Rq) (S : Nat → Prop) (ov rv : Value) (ys : List Value) (id : Int) (m k : Nat)
    (hs : FS N fb ov rv id m k s) (hL : LW w0 fb N l S ov rv m ys w) (hp : PI N l) (hll : l.length ≤ 200) (hN : 1 ≤ N ∧ N ≤ 16) (hid : 0 ≤ id ∧ id ≤ (l.length : Int) + 1)
    (hK : ∀ s w' l' S' ov', FS N fb ov' rv id m k s → LW w0 fb N l' S' ov' rv m ys w' → PI N l' → l'.length ≤ l.length + 1 → K s w') : FW Try.prog 303 none (sub body3 [1,1,0,1,1,1,0,0,1,1,0,0,1,0,1,1,1,1,1,1]) (thenE K Q) s w := by
  obtain ⟨h5, h6, h8, h15, h63, h64, h65, hds⟩ := hs
  obtain ⟨ad, cp, hov, had⟩ : ∃ ad cp, ov = .slice ad l.length cp ∧ (0 < l.length → ∃ g, ad = some ⟨g, 0, none⟩) := by
    rcases hL.own.val with ⟨h, h', _⟩ | ⟨g, cap, h, _⟩
    · exact ⟨none, 0, by rw [h, h'], fun h => by omega⟩
    · exact ⟨_, cap, h, fun _ => ⟨g, rfl⟩⟩
  subst hov
  refine at_seq rfl fun K2 hK2 => ?_
  (conv => arg 4; whnf)
  refine fw_region_lit rfl ?_
  simp [go_sem, opsF, opF, upF, Region.wanted, Fr.ev, Fr.put, thenE, inBlockE, Oper.semAt, yieldF, h5, h6, h8, h15, h63, h64, h65]
  refine on_kf hK2 [(5, .int .i64 N), (6, .pointer (some ⟨fb, 0, none⟩)), (8, .slice ad l.length cp), (15, .int .i64 id), (23, .int .i64 0), (63, rv), (64, .int .i64 (m : Int)), (65, .int .i64 (k : Int))] (by simp [h5, h6, h8, h15, h63, h64, h65]) hds ?_
  clear hK2 h5 h6 h8 h15 h63 h64 h65 hds; intro s hs hds
  obtain ⟨h5, h6, h8, h15, h23, h63, h64, h65⟩ := facts8 hs; clear hs
  refine at_seq rfl fun K3 hK3 => ?_
  refine at_block 3 rfl ?_
  by_cases hbad : id < 1 ∨ (l.length : Int) < id
  · have hcc := close_no fb N l S id w hL.fl hbad
    have hcase : id < 1 ∨ (¬ id < 1 ∧ (l.length : Int) < id) := by omega
    rcases hcase with d1 | ⟨d1, d2⟩
    · refine at_seq rfl fun K4 hK4 => ?_
      (conv => arg 4; whnf)
      refine fw_region_lit rfl ?_
      simp [go_sem, opsF, opF, upF, Region.wanted, Fr.ev, Fr.put, thenE, inBlockE, Oper.semAt, yieldF, h5, h6, h8, h15, h23, h63, h64, h65, d1]
      refine on_kf hK4 [(5, .int .i64 N), (6, .pointer (some ⟨fb, 0, none⟩)), (8, .slice ad l.length cp), (15, .int .i64 id), (23, .int .i64 0), (63, rv), (64, .int .i64 (m : Int)), (65, .int .i64 (k : Int)), (161, .bool true)] (by simp [h5, h6, h8, h15, h23, h63, h64, h65]) hds ?_
      clear hK4 h5 h6 h8 h15 h23 h63 h64 h65 hds; intro s hs hds
      obtain ⟨h5, h6, h8, h15, h23, h63, h64, h65, h161⟩ := facts9 hs; clear hs
      refine at_true 161 rfl h161 ?_
      (conv => arg 4; whnf)
      refine fw_region_lit rfl ?_
      simp [go_sem, opsF, opF, upF, Region.wanted, Fr.ev, Fr.put, thenE, inBlockE, Oper.semAt, yieldF, h5, h6, h8, h15, h23, h63, h64, h65, h161]
      refine on_kf hK3 [(5, .int .i64 N), (6, .pointer (some ⟨fb, 0, none⟩)), (8, .slice ad l.length cp), (15, .int .i64 id), (23, .int .i64 10), (63, rv), (64, .int .i64 (m : Int)), (65, .int .i64 (k : Int)), (161, .bool true)] (by simp [h5, h6, h8, h15, h23, h63, h64, h65, h161]) hds ?_
      clear hK3 h5 h6 h8 h15 h23 h63 h64 h65 h161 hds; intro s hs hds
      obtain ⟨h5, h6, h8, h15, h23, h63, h64, h65, h161⟩ := facts9 hs; clear hs
      exact segClose2 s w K Q N fb _ rv id m k 10 (fun w' => w' = w) ⟨h5, h6, h8, h15, h63, h64, h65, hds⟩ h23 hcc (fun s w' hf hl => hK s w' l S _ hf (hl ▸ hL) hp (by omega))
    · refine at_seq rfl fun K5 hK5 => ?_
      (conv => arg 4; whnf)
      refine fw_region_lit rfl ?_
      simp [go_sem, opsF, opF, upF, Region.wanted, Fr.ev, Fr.put, thenE, inBlockE, Oper.semAt, yieldF, h5, h6, h8, h15, h23, h63, h64, h65, d1, d2]
      refine on_kf hK5 [(5, .int .i64 N), (6, .pointer (some ⟨fb, 0, none⟩)), (8, .slice ad l.length cp), (15, .int .i64 id), (23, .int .i64 0), (63, rv), (64, .int .i64 (m : Int)), (65, .int .i64 (k : Int)), (161, .bool true)] (by simp [h5, h6, h8, h15, h23, h63, h64, h65]) hds ?_
      clear hK5 h5 h6 h8 h15 h23 h63 h64 h65 hds; intro s hs hds
      obtain ⟨h5, h6, h8, h15, h23, h63, h64, h65, h161⟩ := facts9 hs; clear hs
      refine at_true 161 rfl h161 ?_
      (conv => arg 4; whnf)
      refine fw_region_lit rfl ?_
      simp [go_sem, opsF, opF, upF, Region.wanted, Fr.ev, Fr.put, thenE, inBlockE, Oper.semAt, yieldF, h5, h6, h8, h15, h23, h63, h64, h65, h161]
      refine on_kf hK3 [(5, .int .i64 N), (6, .pointer (some ⟨fb, 0, none⟩)), (8, .slice ad l.length cp), (15, .int .i64 id), (23, .int .i64 10), (63, rv), (64, .int .i64 (m : Int)), (65, .int .i64 (k : Int)), (161, .bool true)] (by simp [h5, h6, h8, h15, h23, h63, h64, h65, h161]) hds ?_
      clear hK3 h5 h6 h8 h15 h23 h63 h64 h65 h161 hds; intro s hs hds
      obtain ⟨h5, h6, h8, h15, h23, h63, h64, h65, h161⟩ := facts9 hs; clear hs
      exact segClose2 s w K Q N fb _ rv id m k 10 (fun w' => w' = w) ⟨h5, h6, h8, h15, h63, h64, h65, hds⟩ h23 hcc (fun s w' hf hl => hK s w' l S _ hf (hl ▸ hL) hp (by omega))
  · have d1 : ¬ id < 1 := by omega
    have d2 : ¬ (l.length : Int) < id := by omega
    obtain ⟨i, hi⟩ : ∃ i : Nat, id = (i : Int) + 1 := ⟨(id - 1).toNat, by omega⟩
    have hil : i < l.length := by omega
    obtain ⟨r, hri⟩ : ∃ r, l[i]? = some r := ⟨l[i], by simp [hil]⟩
    obtain ⟨g, rfl⟩ := had (by omega)
    have e4 : w.cell? ⟨g, i * 5 + 4, none⟩ = some (.bool r.op) := hL.own.cell (cellsOf_get l i 4 r hri (by decide))
    have e1 : IntKind.i64.wrap (id - 1) = (i : Int) := by rw [IntWalk.i64_in _ (by omega)]; omega
    refine at_seq rfl fun K6 hK6 => ?_
    (conv => arg 4; whnf)
    refine fw_region_lit rfl ?_
    simp [go_sem, opsF, opF, upF, Region.wanted, Fr.ev, Fr.put, thenE, inBlockE, Oper.semAt, yieldF, h5, h6, h8, h15, h23, h63, h64, h65, d1, d2]
    refine on_kf hK6 [(5, .int .i64 N), (6, .pointer (some ⟨fb, 0, none⟩)), (8, .slice (some ⟨g, 0, none⟩) l.length cp), (15, .int .i64 id), (23, .int .i64 0), (63, rv), (64, .int .i64 (m : Int)), (65, .int .i64 (k : Int)), (161, .bool false)] (by simp [h5, h6, h8, h15, h23, h63, h64, h65]) hds ?_
    clear hK6 h5 h6 h8 h15 h23 h63 h64 h65 hds; intro s hs hds
    obtain ⟨h5, h6, h8, h15, h23, h63, h64, h65, h161⟩ := facts9 hs; clear hs
    refine at_false 161 rfl h161 ?_
    cases hop : r.op
    · rw [hop] at e4
      refine at_seq rfl fun K7 hK7 => ?_
      (conv => arg 4; whnf)
      refine fw_region_lit rfl ?_
      simp [go_sem, opsF, opF, upF, Region.wanted, Fr.ev, Fr.put, thenE, inBlockE, Oper.semAt, yieldF, h5, h6, h8, h15, h23, h63, h64, h65, h161, e1, hil, e4]
      refine on_kf hK7 [(5, .int .i64 N), (6, .pointer (some ⟨fb, 0, none⟩)), (8, .slice (some ⟨g, 0, none⟩) l.length cp), (15, .int .i64 id), (23, .int .i64 0), (63, rv), (64, .int .i64 (m : Int)), (65, .int .i64 (k : Int)), (161, .bool false), (170, .bool true)] (by simp [h5, h6, h8, h15, h23, h63, h64, h65, h161]) hds ?_
      clear hK7 h5 h6 h8 h15 h23 h63 h64 h65 h161 hds; intro s hs hds
      obtain ⟨h5, h6, h8, h15, h23, h63, h64, h65, h161, h170⟩ := facts10 hs; clear hs
      refine at_true 170 rfl h170 ?_
      (conv => arg 4; whnf)
      refine fw_region_lit rfl ?_
      simp [go_sem, opsF, opF, upF, Region.wanted, Fr.ev, Fr.put, thenE, inBlockE, Oper.semAt, yieldF, h5, h6, h8, h15, h23, h63, h64, h65, h161, h170]
      refine on_kf hK3 [(5, .int .i64 N), (6, .pointer (some ⟨fb, 0, none⟩)), (8, .slice (some ⟨g, 0, none⟩) l.length cp), (15, .int .i64 id), (23, .int .i64 11), (63, rv), (64, .int .i64 (m : Int)), (65, .int .i64 (k : Int)), (161, .bool false), (170, .bool true)] (by simp [h5, h6, h8, h15, h23, h63, h64, h65, h161, h170]) hds ?_
      clear hK3 h5 h6 h8 h15 h23 h63 h64 h65 h161 h170 hds; intro s hs hds
      obtain ⟨h5, h6, h8, h15, h23, h63, h64, h65, h161, h170⟩ := facts10 hs; clear hs
      have hcc := close_late fb N l S id i r w hL.fl hi hri hop
      exact segClose2 s w K Q N fb _ rv id m k 11 (fun w' => w' = w) ⟨h5, h6, h8, h15, h63, h64, h65, hds⟩ h23 hcc (fun s w' hf hl => hK s w' l S _ hf (hl ▸ hL) hp (by omega))
    · rw [hop] at e4
      refine at_seq rfl fun K8 hK8 => ?_
      (conv => arg 4; whnf)
      refine fw_region_lit rfl ?_
      simp [go_sem, opsF, opF, upF, Region.wanted, Fr.ev, Fr.put, thenE, inBlockE, Oper.semAt, yieldF, h5, h6, h8, h15, h23, h63, h64, h65, h161, e1, hil, e4]
      refine on_kf hK8 [(5, .int .i64 N), (6, .pointer (some ⟨fb, 0, none⟩)), (8, .slice (some ⟨g, 0, none⟩) l.length cp), (15, .int .i64 id), (23, .int .i64 0), (63, rv), (64, .int .i64 (m : Int)), (65, .int .i64 (k : Int)), (161, .bool false), (170, .bool false)] (by simp [h5, h6, h8, h15, h23, h63, h64, h65, h161]) hds ?_
      clear hK8 h5 h6 h8 h15 h23 h63 h64 h65 h161 hds; intro s hs hds
      obtain ⟨h5, h6, h8, h15, h23, h63, h64, h65, h161, h170⟩ := facts10 hs; clear hs
      refine at_false 170 rfl h170 ?_
      refine at_seq rfl fun K9 hK9 => ?_
      (conv => arg 4; whnf)
      refine fw_region_lit rfl ?_
      simp [go_sem, opsF, opF, upF, Region.wanted, Fr.ev, Fr.put, thenE, inBlockE, Oper.semAt, yieldF, h5, h6, h8, h15, h23, h63, h64, h65, h161, h170]
      refine (clone_any _ l w hL.own (by omega)).on ?_
      rintro v w1 ⟨hrow, hw1, hown⟩
      obtain ⟨g', cp', rfl⟩ : ∃ g' cp', v = .slice (some ⟨g', 0, none⟩) l.length cp' := by
        rcases hrow.val with ⟨_, h', _⟩ | ⟨g, cap, h, _⟩
        · omega
        · exact ⟨g, cap, h⟩
      refine on_kf hK9 [(5, .int .i64 N), (6, .pointer (some ⟨fb, 0, none⟩)), (8, .slice (some ⟨g', 0, none⟩) l.length cp'), (15, .int .i64 id), (23, .int .i64 0), (63, rv), (64, .int .i64 (m : Int)), (65, .int .i64 (k : Int)), (161, .bool false), (170, .bool false)] (by simp [h5, h6, h8, h15, h23, h63, h64, h65, h161, h170]) hds ?_
      clear hK9 h5 h6 h8 h15 h23 h63 h64 h65 h161 h170 hds; intro s hs hds
      obtain ⟨h5, h6, h8, h15, h23, h63, h64, h65, h161, h170⟩ := facts10 hs; clear hs
      have hf4 := hrow.frozen (i * 5 + 4)
      have hc4 : w1.cell? ⟨g', i * 5 + 4, none⟩ = some (.bool r.op) := hrow.cell (cellsOf_get l i 4 r hri (by decide))
      (conv => arg 4; whnf)
      refine fw_region_lit rfl ?_
      simp [go_sem, opsF, opF, upF, Region.wanted, Fr.ev, Fr.put, thenE, inBlockE, Oper.semAt, yieldF, h5, h6, h8, h15, h23, h63, h64, h65, h161, h170, e1, hil, hf4, hc4]
      refine on_kf hK3 [(5, .int .i64 N), (6, .pointer (some ⟨fb, 0, none⟩)), (8, .slice (some ⟨g', 0, none⟩) l.length cp'), (15, .int .i64 id), (23, .int .i64 0), (63, rv), (64, .int .i64 (m : Int)), (65, .int .i64 (k : Int)), (161, .bool false), (170, .bool false)] (by simp [h5, h6, h8, h15, h23, h63, h64, h65, h161, h170]) hds ?_
      clear hK3 h5 h6 h8 h15 h23 h63 h64 h65 h161 h170 hds; intro s hs hds
      obtain ⟨h5, h6, h8, h15, h23, h63, h64, h65, h161, h170⟩ := facts10 hs; clear hs
      have hrow2 := hrow.set (i * 5 + 4) (.bool false)
      have hset := Frm.setCell (S := fun b => b = g') w1 ⟨g', i * 5 + 4, none⟩ (.bool false) rfl
      have hg := (hown g' rfl).1
      have hL2 := hL.new hw1
      have hfl2 : Flight (w1.setCell ⟨g', i * 5 + 4, none⟩ (.bool false)) fb N l S := hL2.fl.frm hset (fun b hb e => by have := hL.fl.lt b hb; omega)
      have hcc := close_yes fb N l S id i r _ hfl2 hi hri hop (fun j x hx => by have := hp.each j x hx; omega) hp.uniq
      refine segClose2 s _ K Q N fb _ rv id m k 0 _ ⟨h5, h6, h8, h15, h63, h64, h65, hds⟩ h23 hcc ?_
      rintro s w' hf ⟨hfl', hfr⟩
      have hcl : (cellsOf l).set (i * 5 + 4) (.bool false) = cellsOf (l.set i { r with op := false }) := flat_set Rq.enc 5 Rq.enc_len l i 4 (.bool false) r hri (by decide) _ rfl
      have hlen : (l.set i { r with op := false }).length = l.length := by simp
      have hrow3 : Row (w1.setCell ⟨g', i * 5 + 4, none⟩ (.bool false)) 31 5 (.slice (some ⟨g', 0, none⟩) l.length cp') (l.set i { r with op := false }).length (cellsOf (l.set i { r with op := false })) := by
        rw [hlen, ← hcl]; exact hrow2
      have hsz := hL.nw.size
      have hL3 : LW w0 fb N l S (.slice (some ⟨g, 0, none⟩) l.length cp) rv m ys (w1.setCell ⟨g', i * 5 + 4, none⟩ (.bool false)) :=
        ⟨Frm.trans hL2.nw hset (fun b hb h => by omega), hfl2, hL2.own.frm hset (fun b hb e => by have := hL.own.lt b hb; omega), hL2.known.frm hset (fun b hb e => by have := hL.known.lt b hb; omega), hL.hS, hL.ho, hL.hr, hL.hro⟩
      refine hK s w' _ S _ hf (hL3.flight hfr hfl' (fun b hb => .inl hb) hrow3 ?_) (hp.close i r hri) (by simp)
      intro b hb
      have hge := (hown b hb).1
      refine ⟨by omega, fun hs => ?_, fun hr => ?_⟩
      · have := hL.fl.lt b hs; omega
      · have := hL.known.lt b hr; omega
end Go.Proofs.Ytiejaopidkghdaa
