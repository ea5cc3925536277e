/- The law's rounds. -/
import Derived.Test.YtiejaopidkghdaaFr
namespace Go.Proofs.Ytiejaopidkghdaa
set_option linter.unusedSimpArgs false
set_option linter.unusedVariables false
open Go.RowKit Go.Lf

theorem segRest (s : Fr) (w00 w : World) (K : Fr → World → Prop) (Q : Exit → Fr → World → Prop) (N : Int) (fb : Nat) (l : List Rq) (S : Nat → Prop) (ov rv : Value) (ys : List Value) (id : Int) (m k : Nat)
    (hs : FS N fb ov rv id m k s) (hL : LW w00 fb N l S ov rv m ys w) (hp : PI N l) (hll : l.length ≤ 200) (hN : 1 ≤ N ∧ N ≤ 16) (hid : 0 ≤ id ∧ id ≤ 1000)
    (hK : ∀ s w', FS N fb ov rv id m k s → LW w00 fb N l S ov rv m ys w' → K s w') : FW Try.prog 303 none (sub body3 [1,1,1,1,0,0,1,1,0,0,1,0,1,1,1,1,1,1]) (inBlockE 1 (thenE K Q)) s w := by
  refine at_seq rfl fun K1 hK1 => ?_
  refine segSent s w00 w _ _ N fb l S ov rv ys id m k hs hL hll ?_
  intro s w1 hs hL
  refine hK1 _ _ ?_
  clear hK1
  refine at_seq rfl fun K2 hK2 => ?_
  refine segWho s w00 w1 _ _ N fb l S ov rv ys id m k hs hL hp hll hN ?_
  intro s w1 hs hL
  refine hK2 _ _ ?_
  clear hK2
  exact segGet s w00 w1 K Q N fb l S ov rv ys id m k hs hL hll hid hK

/-- The rows of three bytes. -/
structure T3 where
  x : Int
  y : Int
  z : Int
def T3.enc (t : T3) : List Value := [.int .u8 t.x, .int .u8 t.y, .int .u8 t.z]
theorem T3.enc_len (t : T3) : t.enc.length = 3 := rfl
def T3.ok (t : T3) : Prop := (0 ≤ t.x ∧ t.x ≤ 255) ∧ (0 ≤ t.y ∧ t.y ≤ 255) ∧ (0 ≤ t.z ∧ t.z ≤ 255)

/-- What holds between two rounds. -/
def RoI (w00 : World) (N : Int) (fb : Nat) (rv : Value) (zs : List T3) (mm : Nat) (s : Fr) (w : World) : Prop :=
  ∃ (k : Nat) (l : List Rq) (S : Nat → Prop) (ov : Value), k ≤ zs.length ∧ mm = zs.length - k ∧ s.t 5 = .int .i64 N ∧ s.t 6 = .pointer (some ⟨fb, 0, none⟩) ∧ s.t 8 = ov ∧ s.t 63 = rv ∧ s.t 64 = .int .i64 (zs.length : Int) ∧ s.t 65 = .int .i64 (k : Int) ∧ s.ds = [] ∧
    LW w00 fb N l S ov rv zs.length (zs.flatMap T3.enc) w ∧ PI N l ∧ l.length ≤ k

set_option maxHeartbeats 1000000 in
theorem segRounds (s : Fr) (w00 w : World) (K : Fr → World → Prop) (Q : Exit → Fr → World → Prop) (N : Int) (fb : Nat) (l : List Rq) (S : Nat → Prop) (ov rv : Value) (zs : List T3)
    (h5 : s.t 5 = .int .i64 N) (h6 : s.t 6 = .pointer (some ⟨fb, 0, none⟩)) (h8 : s.t 8 = .slice none 0 0) (h63 : s.t 63 = rv) (h64 : s.t 64 = .int .i64 (zs.length : Int)) (h65 : s.t 65 = .int .i64 ((0 : Nat) : Int)) (hds : s.ds = [])
    (hL : LW w00 fb N [] S (.slice none 0 0) rv zs.length (zs.flatMap T3.enc) w) (hN : 1 ≤ N ∧ N ≤ 16) (hz : zs.length ≤ 128) (hok : ∀ t ∈ zs, t.ok)
    (hK : ∀ s w', s.ds = [] → New w00 w' → K s w') : FW Try.prog 303 none (sub body3 [1,0,1,1,1,1,1,1]) (thenE K Q) s w := by
  refine at_block 0 rfl ?_
  refine at_loop rfl (RoI w00 N fb rv zs) zs.length ⟨0, [], S, _, by omega, by omega, h5, h6, h8, h63, h64, h65, hds, hL, ⟨fun i r h => by simp at h, fun i j a b h => by simp at h⟩, by simp⟩ ?_
  clear h5 h6 h8 h63 h64 h65 hds s hL w S l ov
  rintro mm s w ⟨k, l, S, ov, hk, rfl, h5, h6, h8, h63, h64, h65, hds, hL, hp, hlk⟩
  by_cases hlt : k < zs.length
  · have d0 : (k : Int) < (zs.length : Int) := by omega
    refine at_seq rfl fun K3 hK3 => ?_
    (conv => arg 4; whnf)
    refine fw_region_lit rfl ?_
    simp [go_sem, opsF, opF, upF, Region.wanted, Fr.ev, Fr.put, thenE, inBlockE, Oper.semAt, yieldF, h5, h6, h8, h63, h64, h65, d0]
    refine on_kf hK3 [(5, .int .i64 N), (6, .pointer (some ⟨fb, 0, none⟩)), (8, ov), (63, rv), (64, .int .i64 (zs.length : Int)), (65, .int .i64 (k : Int)), (66, .bool true)] (by simp [h5, h6, h8, h63, h64, h65]) hds ?_
    clear hK3 h5 h6 h8 h63 h64 h65 hds; intro s hs hds
    obtain ⟨h5, h6, h8, h63, h64, h65, h66⟩ := facts7 hs; clear hs
    refine at_seq rfl fun K4 hK4 => ?_
    refine at_true 66 rfl h66 ?_
    refine at_skip rfl ?_
    simp only [inBlockE, thenE]
    refine on_kf hK4 [(5, .int .i64 N), (6, .pointer (some ⟨fb, 0, none⟩)), (8, ov), (63, rv), (64, .int .i64 (zs.length : Int)), (65, .int .i64 (k : Int))] (by simp [h5, h6, h8, h63, h64, h65, h66]) hds ?_
    clear hK4 h5 h6 h8 h63 h64 h65 h66 hds; intro s hs hds
    obtain ⟨h5, h6, h8, h63, h64, h65⟩ := facts6 hs; clear hs
    refine at_seq rfl fun K5 hK5 => ?_
    refine at_block 1 rfl ?_
    obtain ⟨t, hti⟩ : ∃ t, zs[k]? = some t := ⟨zs[k], by simp [hlt]⟩
    obtain ⟨⟨x1, x2⟩, ⟨y1, y2⟩, ⟨z1, z2⟩⟩ := hok t (List.mem_of_getElem? hti)
    obtain ⟨g, cap, hrv⟩ : ∃ g cap, rv = .slice (some ⟨g, 0, none⟩) zs.length cap := by
      rcases hL.known.val with ⟨_, h, _⟩ | ⟨g, cap, h, _⟩
      · omega
      · exact ⟨g, cap, h⟩
    subst hrv
    have cget : ∀ j, j < 3 → (zs.flatMap T3.enc)[k * 3 + j]? = (t.enc)[j]? := by
      intro j hj
      rw [flat_get T3.enc 3 T3.enc_len zs k j hj, hti]; rfl
    have e0 : w.cell? ⟨g, k * 3, none⟩ = some (.int .u8 t.x) := hL.known.cell (cget 0 (by decide))
    have e1 : w.cell? ⟨g, k * 3 + 1, none⟩ = some (.int .u8 t.y) := hL.known.cell (cget 1 (by decide))
    have e2 : w.cell? ⟨g, k * 3 + 2, none⟩ = some (.int .u8 t.z) := hL.known.cell (cget 2 (by decide))
    have hA := Frm.alloc (fun _ => False) w (.cells #[.int .u8 t.x, .int .u8 t.y, .int .u8 t.z] 28)
    have hbx := Blk.new w #[.int .u8 t.x, .int .u8 t.y, .int .u8 t.z] 28
    have hLA := hL.new hA
    refine at_seq rfl fun K6 hK6 => ?_
    (conv => arg 4; whnf)
    refine fw_region_lit rfl ?_
    simp [go_sem, opsF, opF, upF, Region.wanted, Fr.ev, Fr.put, thenE, inBlockE, Oper.semAt, yieldF, h5, h6, h8, h63, h64, h65, hlt, e0, e1, e2]
    refine on_kf hK6 [(5, .int .i64 N), (6, .pointer (some ⟨fb, 0, none⟩)), (8, ov), (10, .int .i64 (k : Int)), (11, .pointer (some ⟨w.heap.size, 0, none⟩)), (63, .slice (some ⟨g, 0, none⟩) zs.length cap), (64, .int .i64 (zs.length : Int)), (65, .int .i64 (k : Int))] (by simp [h5, h6, h8, h63, h64, h65]) hds ?_
    clear hK6 h5 h6 h8 h63 h64 h65 hds; intro s hs hds
    obtain ⟨h5, h6, h8, h10, h11, h63, h64, h65⟩ := facts8 hs; clear hs
    refine at_seq rfl fun K7 hK7 => ?_
    refine seg10 s _ w.heap.size N k t.x t.y t.z _ _ h5 h10 h11 hbx hN (by omega) ⟨y1, y2⟩ ⟨z1, z2⟩ ?_
    intro s2 w2 b1 b2 hkeep hds2 hw2 g1 g2 h12 h13 h14 hb1 hb2
    have h5 := (hkeep 5 (by omega) (by omega) (by omega) (by omega)).trans h5
    have h6 := (hkeep 6 (by omega) (by omega) (by omega) (by omega)).trans h6
    have h8 := (hkeep 8 (by omega) (by omega) (by omega) (by omega)).trans h8
    have h11 := (hkeep 11 (by omega) (by omega) (by omega) (by omega)).trans h11
    have h63 := (hkeep 63 (by omega) (by omega) (by omega) (by omega)).trans h63
    have h64 := (hkeep 64 (by omega) (by omega) (by omega) (by omega)).trans h64
    have h65 := (hkeep 65 (by omega) (by omega) (by omega) (by omega)).trans h65
    have hds := hds2.trans hds
    have hL2 := hLA.new hw2
    have hbx2 := hbx.frm hw2 (fun h => h)
    clear hkeep hds2 hA hLA hL e0 e1 e2 hbx hw2
    generalize w.heap.size = bx at *
    obtain ⟨ad, cp, hov⟩ : ∃ ad cp, ov = .slice ad l.length cp := by
      rcases hL2.own.val with ⟨h, h', _⟩ | ⟨g, cap, h, _⟩
      · exact ⟨none, 0, by rw [h, h']⟩
      · exact ⟨_, cap, h⟩
    subst hov
    have x0 := hbx2.cell 0
    have x1 := hbx2.cell 1
    simp only [List.getElem?_toArray, List.getElem?_cons_zero, List.getElem?_cons_succ] at x0 x1
    have a1 : IntKind.i64.wrap t.y = t.y := IntWalk.i64_in _ (by omega)
    have a2 : IntKind.i64.wrap ((l.length : Int) + 2) = (l.length : Int) + 2 := IntWalk.i64_in _ (by omega)
    have a3 : t.y.tmod ((l.length : Int) + 2) = t.y % ((l.length : Int) + 2) := Int.tmod_eq_emod_of_nonneg (by omega)
    have a4 : ¬ (l.length : Int) + 2 = 0 := by omega
    have a5 : 0 ≤ t.y % ((l.length : Int) + 2) ∧ t.y % ((l.length : Int) + 2) < (l.length : Int) + 2 := ⟨Int.emod_nonneg _ (by omega), Int.emod_lt_of_pos _ (by omega)⟩
    have a6 : IntKind.i64.wrap (t.y % ((l.length : Int) + 2)) = t.y % ((l.length : Int) + 2) := IntWalk.i64_in _ (by omega)
    have a7 : t.x.tmod 3 = t.x % 3 := Int.tmod_eq_emod_of_nonneg (by omega)
    have n1 : 0 ≤ t.y % (N + 2) ∧ t.y % (N + 2) < N + 2 := ⟨Int.emod_nonneg _ (by omega), Int.emod_lt_of_pos _ (by omega)⟩
    refine hK7 _ _ ?_
    clear hK7
    refine at_seq rfl fun K8 hK8 => ?_
    (conv => arg 4; whnf)
    refine fw_region_lit rfl ?_
    simp [go_sem, opsF, opF, upF, Region.wanted, Fr.ev, Fr.put, thenE, inBlockE, Oper.semAt, yieldF, h5, h6, h8, h11, h12, h13, h14, h63, h64, h65, x1, a1, a2, a3, a4, a6]
    refine on_kf hK8 [(5, .int .i64 N), (6, .pointer (some ⟨fb, 0, none⟩)), (8, .slice ad l.length cp), (11, .pointer (some ⟨bx, 0, none⟩)), (12, .pointer (some ⟨b1, 0, none⟩)), (13, .pointer (some ⟨b2, 0, none⟩)), (14, .int .i64 (3 * (k : Int) - 2)), (15, .int .i64 (t.y % ((l.length : Int) + 2))), (63, .slice (some ⟨g, 0, none⟩) zs.length cap), (64, .int .i64 (zs.length : Int)), (65, .int .i64 (k : Int))] (by simp [h5, h6, h8, h11, h12, h13, h14, h63, h64, h65]) hds ?_
    clear hK8 h5 h6 h8 h11 h12 h13 h14 h63 h64 h65 hds; intro s hs hds
    obtain ⟨h5, h6, h8, h11, h12, h13, h14, h15, h63, h64, h65⟩ := facts11 hs; clear hs
    generalize t.y % ((l.length : Int) + 2) = id at *
    have after : ∀ (K' : Fr → World → Prop), (∀ s w, FW Try.prog 303 none (sub body3 [1,1,1,0,0,1,0,1,1,1,1,1,1]) (thenE (fun s' w' => ∃ m', m' < zs.length - k ∧ RoI w00 N fb (.slice (some ⟨g, 0, none⟩) zs.length cap) zs m' s' w') (inBlockE 0 (thenE K Q))) s w → K' s w) →
        ∀ s w' l' S' ov', FS N fb ov' (.slice (some ⟨g, 0, none⟩) zs.length cap) id zs.length k s → LW w00 fb N l' S' ov' (.slice (some ⟨g, 0, none⟩) zs.length cap) zs.length (zs.flatMap T3.enc) w' → PI N l' → l'.length ≤ l.length + 1 →
        FW Try.prog 303 none (sub body3 [1,1,1,1,0,0,1,1,0,0,1,0,1,1,1,1,1,1]) (inBlockE 1 (thenE K' (thenE (fun s' w' => ∃ m', m' < zs.length - k ∧ RoI w00 N fb (.slice (some ⟨g, 0, none⟩) zs.length cap) zs m' s' w') (inBlockE 0 (thenE K Q))))) s w' := by
      clear h5 h6 h8 h11 h12 h13 h14 h15 h63 h64 h65 hds hL2 hp hb1 hb2 x0 x1 hbx2
      intro K' hK' s w' l' S' ov' hf hL' hp' hl'
      refine segRest s w00 w' _ _ N fb l' S' ov' _ _ id _ k hf hL' hp' (by omega) hN (by omega) ?_
      rintro s w3 ⟨h5, h6, h8, h15, h63, h64, h65, hds⟩ hL3
      refine hK' _ _ ?_
      have q1 : IntKind.i64.wrap ((k : Int) + 1) = (k : Int) + 1 := IntWalk.i64_in _ (by omega)
      (conv => arg 4; whnf)
      refine fw_region_lit rfl ?_
      simp [go_sem, opsF, opF, upF, Region.wanted, Fr.ev, Fr.put, thenE, inBlockE, Oper.semAt, yieldF, h65, q1]
      refine ⟨zs.length - (k + 1), by omega, k + 1, l', S', ov', by omega, rfl, ?_, ?_, ?_, ?_, ?_, ?_, ?_, hL3, hp', by omega⟩ <;> simp [h5, h6, h8, h63, h64, hds]
    refine at_seq rfl fun K9 hK9 => ?_
    refine at_seq rfl fun K10 hK10 => ?_
    by_cases hask : t.x % 3 < 2
    · (conv => arg 4; whnf)
      refine fw_region_lit rfl ?_
      simp [go_sem, opsF, opF, upF, Region.wanted, Fr.ev, Fr.put, thenE, inBlockE, Oper.semAt, yieldF, h5, h6, h8, h11, h12, h13, h14, h15, h63, h64, h65, x0, a7, hask]
      refine on_kf hK10 [(5, .int .i64 N), (6, .pointer (some ⟨fb, 0, none⟩)), (8, .slice ad l.length cp), (11, .pointer (some ⟨bx, 0, none⟩)), (12, .pointer (some ⟨b1, 0, none⟩)), (13, .pointer (some ⟨b2, 0, none⟩)), (14, .int .i64 (3 * (k : Int) - 2)), (15, .int .i64 id), (63, .slice (some ⟨g, 0, none⟩) zs.length cap), (64, .int .i64 (zs.length : Int)), (65, .int .i64 (k : Int)), (94, .bool true)] (by simp [h5, h6, h8, h11, h12, h13, h14, h15, h63, h64, h65]) hds ?_
      clear hK10 h5 h6 h8 h11 h12 h13 h14 h15 h63 h64 h65 hds; intro s hs hds
      obtain ⟨h5, h6, h8, h11, h12, h13, h14, h15, h63, h64, h65, h94⟩ := facts12 hs; clear hs
      refine at_true 94 rfl h94 ?_
      refine segAsk s w00 w2 _ _ N fb l S _ _ _ id zs.length k b1 b2 (t.y % (N + 2) - 1) (t.z % 6) (3 * (k : Int) - 2) ⟨h5, h6, h8, h15, h63, h64, h65, hds⟩ hL2 hp (by omega) hN (by omega) (by omega) (by omega) h12 h13 h14 hb1 hb2 ?_
      intro s w' l' S' ov' hf hL' hp' hl'
      refine hK9 _ _ ?_
      clear hK9
      exact after _ (by assumption) s w' l' S' ov' hf hL' hp' hl'
    · (conv => arg 4; whnf)
      refine fw_region_lit rfl ?_
      simp [go_sem, opsF, opF, upF, Region.wanted, Fr.ev, Fr.put, thenE, inBlockE, Oper.semAt, yieldF, h5, h6, h8, h11, h12, h13, h14, h15, h63, h64, h65, x0, a7, hask]
      refine on_kf hK10 [(5, .int .i64 N), (6, .pointer (some ⟨fb, 0, none⟩)), (8, .slice ad l.length cp), (11, .pointer (some ⟨bx, 0, none⟩)), (12, .pointer (some ⟨b1, 0, none⟩)), (13, .pointer (some ⟨b2, 0, none⟩)), (14, .int .i64 (3 * (k : Int) - 2)), (15, .int .i64 id), (63, .slice (some ⟨g, 0, none⟩) zs.length cap), (64, .int .i64 (zs.length : Int)), (65, .int .i64 (k : Int)), (94, .bool false)] (by simp [h5, h6, h8, h11, h12, h13, h14, h15, h63, h64, h65]) hds ?_
      clear hK10 h5 h6 h8 h11 h12 h13 h14 h15 h63 h64 h65 hds; intro s hs hds
      obtain ⟨h5, h6, h8, h11, h12, h13, h14, h15, h63, h64, h65, h94⟩ := facts12 hs; clear hs
      refine at_false 94 rfl h94 ?_
      refine segClose s w00 w2 _ _ N fb l S _ _ _ id zs.length k ⟨h5, h6, h8, h15, h63, h64, h65, hds⟩ hL2 hp (by omega) hN (by omega) ?_
      intro s w' l' S' ov' hf hL' hp' hl'
      refine hK9 _ _ ?_
      clear hK9
      exact after _ (by assumption) s w' l' S' ov' hf hL' hp' hl'
  · have d0 : ¬ (k : Int) < (zs.length : Int) := by omega
    refine at_seq rfl fun K11 hK11 => ?_
    (conv => arg 4; whnf)
    refine fw_region_lit rfl ?_
    simp [go_sem, opsF, opF, upF, Region.wanted, Fr.ev, Fr.put, thenE, inBlockE, Oper.semAt, yieldF, h5, h6, h8, h63, h64, h65, d0]
    refine on_kf hK11 [(5, .int .i64 N), (6, .pointer (some ⟨fb, 0, none⟩)), (8, ov), (63, rv), (64, .int .i64 (zs.length : Int)), (65, .int .i64 (k : Int)), (66, .bool false)] (by simp [h5, h6, h8, h63, h64, h65]) hds ?_
    clear hK11 h5 h6 h8 h63 h64 h65 hds; intro s hs hds
    obtain ⟨h5, h6, h8, h63, h64, h65, h66⟩ := facts7 hs; clear hs
    refine at_seq rfl fun K12 hK12 => ?_
    refine at_false 66 rfl h66 ?_
    refine at_exit 0 rfl ?_
    simp only [inBlockE, thenE]
    exact hK s w hds hL.nw
end Go.Proofs.Ytiejaopidkghdaa
