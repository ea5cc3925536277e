/- The law's second part: the pairs. -/
import Derived.Test.YtiejaopidkghdacPo
import Derived.Deep.Slices
namespace Go.Proofs.Ytiejaopidkghdac
set_option linter.unusedSimpArgs false
set_option linter.unusedVariables false
open Go.RowKit Go.Lf

/-- What the law is told of a list of pairs that came in. -/
def IsU2 (w : World) (lv : Value) (zs : List (Int × Int)) : Prop :=
  (lv = .slice none 0 0 ∧ zs = []) ∨ ∃ a cap, lv = .slice (some a) zs.length cap ∧ zs.length ≤ cap ∧ cap ≤ maxLen ∧ (∀ j u, (u2s zs)[j]? = some u → w.cell? (a.add j) = some u) ∧ ∀ t ∈ zs, U2ok t

theorem info39 : (Try.prog.info? 39).map (fun i => (i.zero, i.size, i.bytes)) = some (some (.agg #[.int .i64 0, .int .i64 0]), 2, 16) := by kernel_rfl

/-- Pairs in memory, each of small numbers. -/
structure PR (w0 w : World) (pv : Value) (ps : List (Int × Int)) : Prop where
  row : Row w 39 2 pv ps.length (prs ps)
  nw : New w0 w
  own : ∀ k, pv.ownBlock = some k → w0.heap.size ≤ k
  ok : ∀ p ∈ ps, (0 ≤ p.1 ∧ p.1 ≤ 1000000) ∧ (0 ≤ p.2 ∧ p.2 ≤ 1000000)

theorem PR.new {w0 w w' : World} {pv : Value} {ps : List (Int × Int)} (h : PR w0 w pv ps) (hn : New w w') : PR w0 w' pv ps :=
  ⟨h.row.frm hn (fun _ _ h => h), New.trans h.nw hn, h.own, h.ok⟩

/-- One pair more. -/
theorem PR.add {w0 w : World} {pv : Value} {ps : List (Int × Int)} (h : PR w0 w pv ps) (p : Int × Int) (hp : (0 ≤ p.1 ∧ p.1 ≤ 1000000) ∧ (0 ≤ p.2 ∧ p.2 ≤ 1000000)) (hl : ps.length ≤ 100000) :
    ∃ v' w2, (Builtin.append_ #[38, 38] 38 #[pv, .slice (some ⟨w.heap.size, 0, none⟩) 1 1]).run Try.prog (w.alloc (.cells #[.int .i64 p.1, .int .i64 p.2] 39)) = .ok v' w2 ∧ PR w0 w2 v' (ps ++ [p]) := by
  obtain ⟨v', w2, hap, hr, hf, ho⟩ := h.row.grow (P := Try.prog) (S := 38) (ty := 38) Try.underlying38 info39 rfl (by decide) [.int .i64 p.1, .int .i64 p.2] rfl (by simp [Value.oneCell']) (by unfold maxLen; omega) (by omega)
  refine ⟨v', w2, hap, ⟨by simpa [prs, Prs.enc] using hr, Frm.trans h.nw hf (fun k hk e => by have := h.own k e; omega), fun k hk => ?_, fun q hq => ?_⟩⟩
  · rcases ho k hk with h1 | h1
    · exact h.own k h1
    · have := h.nw.size; omega
  · rcases List.mem_append.1 hq with h1 | h1
    · exact h.ok q h1
    · simp only [List.mem_singleton] at h1; subst h1; exact hp

def HoI (w0 : World) (v4 : Value) (low high : Int) (uv : Value) (k : Nat) (m : Nat) (s : Fr) (w : World) : Prop :=
  ∃ (i : Nat) (pv : Value) (ps : List (Int × Int)), i ≤ k ∧ m = k - i ∧ ps.length ≤ i ∧ PR w0 w pv ps ∧ s.ds = [] ∧ s.t 4 = v4 ∧ s.t 11 = .int .i64 low ∧ s.t 12 = .int .i64 high ∧ s.t 29 = pv ∧ s.t 255 = uv ∧ s.t 256 = .int .i64 (k : Int) ∧ s.t 257 = .int .i64 (i : Int)

set_option maxHeartbeats 4000000 in
theorem loop_holds (s : Fr) (w0 w : World) (K : Fr → World → Prop) (Q : Exit → Fr → World → Prop) (v4 : Value) (low high : Int) (uv : Value) (k : Nat) (zs : List (Int × Int)) (g1 : 1 ≤ low) (g2 : low < high) (g3 : high ≤ 400)
    (hz : k ≤ zs.length) (hk : k ≤ 40) (hu : k = 0 ∨ ∃ a cap, uv = .slice (some a) k cap ∧ k ≤ cap ∧ cap ≤ maxLen ∧ ∀ j u, (u2s zs)[j]? = some u → w0.cell? (a.add j) = some u) (hok : ∀ p ∈ zs, U2ok p)
    (h0 : HoI w0 v4 low high uv k k s w) (hK : ∀ s w, HoI w0 v4 low high uv k 0 s w → K s w) : FW Try.prog 448 none (sub body3 [1,0,1,1,1,1,1,1,1,1]) (thenE K Q) s w := by
  refine at_block 3 rfl ?_
  refine at_loop rfl (HoI w0 v4 low high uv k) k h0 ?_
  clear h0 s w
  rintro m s w ⟨i, pv, ps, hi, rfl, hlen, hP, hds, h4, h11, h12, h29, h255, h256, h257⟩
  by_cases hlt : i < k
  · have d0 : (i : Int) < (k : Int) := by omega
    have d1 : IntKind.i64.wrap ((i : Int) + 1) = (i : Int) + 1 := IntWalk.i64_in _ (by omega)
    obtain ⟨r, hri⟩ : ∃ r, zs[i]? = some r := ⟨zs[i]'(by omega), by simp⟩
    have hrok := hok r (List.mem_of_getElem? hri)
    obtain ⟨⟨ra, rb⟩, ⟨rc, rd⟩⟩ := hrok
    rcases hu with h | ⟨a, cap, rfl, hcap, hmax, hcell⟩
    · omega
    have e0 : w.cell? (a.add (i * 2)) = some (.int .u16 r.1) := cell_new hP.nw (hcell _ _ (u2s_get zs i 0 r hri (by decide)))
    have e1 : w.cell? (a.add (i * 2 + 1)) = some (.int .u16 r.2) := cell_new hP.nw (hcell _ _ (u2s_get zs i 1 r hri (by decide)))
    have e1' : w.cell? ((a.add (i * 2)).add 1) = some (.int .u16 r.2) := by rw [Deep.add_add]; exact e1
    have e1'' : w.cell? ⟨(a.add (i * 2)).block, (a.add (i * 2)).off + 1, none⟩ = some (.int .u16 r.2) := e1'
    have hA := Frm.alloc (fun _ => False) w (.cells #[.int .u16 r.1, .int .u16 r.2] 31)
    have hb31 := Blk.new w #[.int .u16 r.1, .int .u16 r.2] 31
    refine at_seq rfl fun K1 hK1 => ?_
    (conv => arg 4; whnf)
    refine fw_region_lit rfl ?_
    simp [go_sem, opsF, opF, upF, Region.wanted, Fr.ev, Fr.put, thenE, inBlockE, Oper.semAt, yieldF, h4, h11, h12, h29, h255, h256, h257, d0]
    refine on_kf hK1 [(4, _), (11, _), (12, _), (29, _), (255, _), (256, _), (257, _), (258, _)] (fa_cons h4 (fa_cons h11 (fa_cons h12 (fa_cons h29 (fa_cons h255 (fa_cons h256 (fa_cons h257 (fa_cons (by simp [h4, h11, h12, h29, h255, h256, h257, d0] <;> rfl) fa_nil)))))))) hds ?_
    clear hK1 h4 h11 h12 h29 h255 h256 h257 hds; intro s hs hds
    obtain ⟨h4, h11, h12, h29, h255, h256, h257, h258⟩ := facts8 hs; clear hs
    refine at_seq rfl fun K2 hK2 => ?_
    refine at_true 258 rfl h258 ?_
    refine at_skip rfl ?_
    try simp only [inBlockE, thenE]
    refine hK2 _ _ ?_
    clear hK2
    refine at_seq rfl fun K3 hK3 => ?_
    refine at_block 4 rfl ?_
    refine at_seq rfl fun K4 hK4 => ?_
    (conv => arg 4; whnf)
    refine fw_region_lit rfl ?_
    simp [go_sem, opsF, opF, upF, Region.wanted, Fr.ev, Fr.put, thenE, inBlockE, Oper.semAt, yieldF, h4, h11, h12, h29, h255, h256, h257, h258, hlt, e0, e1, e1'']
    refine on_kf hK4 [(4, _), (11, _), (12, _), (29, _), (31, _), (255, _), (256, _), (257, _)] (fa_cons h4 (fa_cons h11 (fa_cons h12 (fa_cons h29 (fa_cons (by simp [h4, h11, h12, h29, h255, h256, h257, h258, hlt, e0, e1, e1''] <;> rfl) (fa_cons h255 (fa_cons h256 (fa_cons h257 fa_nil)))))))) hds ?_
    clear hK4 h4 h11 h12 h29 h255 h256 h257 h258 hds; intro s hs hds
    obtain ⟨h4, h11, h12, h29, h31, h255, h256, h257⟩ := facts8 hs; clear hs
    have hP1 := hP.new hA
    generalize w.alloc (.cells #[.int .u16 r.1, .int .u16 r.2] 31) = w1 at *
    generalize w.heap.size = b31 at *
    have y0 := hb31.cell 0
    have y1 := hb31.cell 1
    have c1 : IntKind.i64.wrap r.1 = r.1 := IntWalk.i64_in _ (by omega)
    have c2 : IntKind.i64.wrap (high - low) = high - low := IntWalk.i64_in _ (by omega)
    have c3 : IntKind.i64.wrap (high - low + 1) = high - low + 1 := IntWalk.i64_in _ (by omega)
    have c4 : Int.tmod r.1 (high - low + 1) = r.1 % (high - low + 1) := Int.tmod_eq_emod_of_nonneg ra
    have c4b : 0 ≤ r.1 % (high - low + 1) ∧ r.1 % (high - low + 1) < high - low + 1 := ⟨Int.emod_nonneg _ (by omega), Int.emod_lt_of_pos _ (by omega)⟩
    have c5 : ¬ (high - low + 1 = 0) := by omega
    have c6 : IntKind.i64.wrap (r.1 % (high - low + 1)) = r.1 % (high - low + 1) := IntWalk.i64_in _ (by omega)
    generalize hq : r.1 % (high - low + 1) = q at *
    have c7 : IntKind.i64.wrap (low + q) = low + q := IntWalk.i64_in _ (by omega)
    refine at_seq rfl fun K5 hK5 => ?_
    (conv => arg 4; whnf)
    refine fw_region_lit rfl ?_
    simp [go_sem, opsF, opF, upF, Region.wanted, Fr.ev, Fr.put, thenE, inBlockE, Oper.semAt, yieldF, h4, h11, h12, h29, h31, h255, h256, h257, y0, c1, c2, c3, c4, c5, c6, c7]
    refine on_kf hK5 [(4, _), (11, _), (12, _), (29, _), (31, _), (32, _), (255, _), (256, _), (257, _)] (fa_cons h4 (fa_cons h11 (fa_cons h12 (fa_cons h29 (fa_cons h31 (fa_cons (by simp [h4, h11, h12, h29, h31, h255, h256, h257, y0, c1, c2, c3, c4, c5, c6, c7] <;> rfl) (fa_cons h255 (fa_cons h256 (fa_cons h257 fa_nil))))))))) hds ?_
    clear hK5 h4 h11 h12 h29 h31 h255 h256 h257 hds; intro s hs hds
    obtain ⟨h4, h11, h12, h29, h31, h32, h255, h256, h257⟩ := facts9 hs; clear hs
    have n1 : Int.tmod r.2 9 = r.2 % 9 := Int.tmod_eq_emod_of_nonneg rc
    have n2 : 0 ≤ r.2 % 9 ∧ r.2 % 9 < 9 := by omega
    have n3 : IntKind.u16.wrap (r.2 % 9) = r.2 % 9 := IntWalk.u16_in _ (by omega)
    have n4 : IntKind.i64.wrap (r.2 % 9) = r.2 % 9 := IntWalk.i64_in _ (by omega)
    generalize r.2 % 9 = t at *
    have n5 : IntKind.i64.wrap (low + q + 1) = low + q + 1 := IntWalk.i64_in _ (by omega)
    have n6 : IntKind.i64.wrap (low + q + 1 + t) = low + q + 1 + t := IntWalk.i64_in _ (by omega)
    obtain ⟨v', w2, hap, hP2⟩ := hP1.add (low + q, low + q + 1 + t) (by simp only; omega) (by omega)
    simp only at hap
    (conv => arg 4; whnf)
    refine fw_region_lit rfl ?_
    refine ops_take 11 fun KO hKO => ?_
    simp [go_sem, opsF, opF, upF, Region.wanted, Fr.ev, Fr.put, thenE, inBlockE, Oper.semAt, yieldF, h4, h11, h12, h29, h31, h32, h255, h256, h257, y1, n1, n3, n4, n5, n6]
    refine hKO _ _ ?_
    clear hKO
    refine ops_append rfl rfl rfl (v := pv) (u := .slice (some ⟨w1.heap.size, 0, none⟩) 1 1) (by simp [Fr.ev]) (by simp [Fr.ev]) hap ?_
    try simp [go_sem, opsF, opF, upF, Region.wanted, Fr.ev, Fr.put, thenE, inBlockE, Oper.semAt, yieldF, h4, h11, h12, h29, h31, h32, h255, h256, h257]
    refine on_kf hK3 [(4, _), (11, _), (12, _), (29, _), (255, _), (256, _), (257, _)] (fa_cons h4 (fa_cons h11 (fa_cons h12 (fa_cons (by simp [h4, h11, h12, h29, h31, h32, h255, h256, h257] <;> rfl) (fa_cons h255 (fa_cons h256 (fa_cons h257 fa_nil))))))) hds ?_
    clear hK3 h4 h11 h12 h29 h31 h32 h255 h256 h257 hds; intro s hs hds
    obtain ⟨h4, h11, h12, h29, h255, h256, h257⟩ := facts7 hs; clear hs
    (conv => arg 4; whnf)
    refine fw_region_lit rfl ?_
    simp [go_sem, opsF, opF, upF, Region.wanted, Fr.ev, Fr.put, thenE, inBlockE, Oper.semAt, yieldF, h4, h11, h12, h29, h255, h256, h257, d1]
    exact ⟨k - (i + 1), by omega, i + 1, v', ps ++ [(low + q, low + q + 1 + t)], by omega, rfl, by simp; omega, hP2, hds, by simp [h4], by simp [h11], by simp [h12], by simp [h29], by simp [h255], by simp [h256], by simp⟩
  · have d0 : ¬ (i : Int) < (k : Int) := by omega
    refine at_seq rfl fun K6 hK6 => ?_
    (conv => arg 4; whnf)
    refine fw_region_lit rfl ?_
    simp [go_sem, opsF, opF, upF, Region.wanted, Fr.ev, Fr.put, thenE, inBlockE, Oper.semAt, yieldF, h4, h11, h12, h29, h255, h256, h257, d0]
    refine on_kf hK6 [(4, _), (11, _), (12, _), (29, _), (255, _), (256, _), (257, _), (258, _)] (fa_cons h4 (fa_cons h11 (fa_cons h12 (fa_cons h29 (fa_cons h255 (fa_cons h256 (fa_cons h257 (fa_cons (by simp [h4, h11, h12, h29, h255, h256, h257, d0] <;> rfl) fa_nil)))))))) hds ?_
    clear hK6 h4 h11 h12 h29 h255 h256 h257 hds; intro s hs hds
    obtain ⟨h4, h11, h12, h29, h255, h256, h257, h258⟩ := facts8 hs; clear hs
    refine at_seq rfl fun K7 hK7 => ?_
    refine at_false 258 rfl h258 ?_
    refine at_exit 3 rfl ?_
    simp only [inBlockE, thenE, if_true]
    exact hK s w ⟨i, pv, ps, hi, by omega, hlen, hP, hds, h4, h11, h12, h29, h255, h256, h257⟩

def SuI (w0 : World) (low high : Int) (sure : Int) (m : Nat) (s : Fr) (w : World) : Prop :=
  ∃ (a : Int) (pv : Value) (ps : List (Int × Int)), low ≤ a ∧ a ≤ high + 4 ∧ m = (high - a).toNat ∧ (ps.length : Int) ≤ 40 + 4 * (a - low) ∧ PR w0 w pv ps ∧ s.ds = [] ∧ s.t 4 = .int .u8 sure ∧ s.t 11 = .int .i64 low ∧ s.t 12 = .int .i64 high ∧ s.t 29 = pv ∧ s.t 33 = .int .i64 a

def SvI (w0 : World) (low high : Int) (sure a : Int) (k0 kk : Nat) (m : Nat) (s : Fr) (w : World) : Prop :=
  ∃ (j : Nat) (pv : Value) (ps : List (Int × Int)), j ≤ kk ∧ m = kk - j ∧ ps.length ≤ k0 + j ∧ PR w0 w pv ps ∧ s.ds = [] ∧ s.t 4 = .int .u8 sure ∧ s.t 11 = .int .i64 low ∧ s.t 12 = .int .i64 high ∧ s.t 29 = pv ∧ s.t 33 = .int .i64 a ∧ s.t 301 = .int .i64 (kk : Int) ∧ s.t 302 = .int .i64 (j : Int)

set_option maxHeartbeats 4000000 in
theorem loop_k (s : Fr) (w0 w : World) (Q : Exit → Fr → World → Prop) (low high : Int) (sure a : Int) (k0 kk : Nat) (g1 : 1 ≤ low) (g2 : low < high) (g3 : high ≤ 400) (ha : low ≤ a ∧ a < high) (hkk : kk ≤ 4) (hk0 : k0 ≤ 5000)
    (h0 : SvI w0 low high sure a k0 kk kk s w) (hQ : ∀ s w, SvI w0 low high sure a k0 kk 0 s w → Q .normal s w) : FW Try.prog 448 none (sub body3 [1,0,0,1,0,0,1,0,1,0,1,1,1,1,1,1,1,1,1]) Q s w := by
  refine at_block 7 rfl ?_
  refine at_loop rfl (SvI w0 low high sure a k0 kk) kk h0 ?_
  clear h0 s w
  rintro m s w ⟨j, pv, ps, hj, rfl, hlen, hP, hds, h4, h11, h12, h29, h33, h301, h302⟩
  by_cases hlt : j < kk
  · have d0 : (j : Int) < (kk : Int) := by omega
    have d1 : IntKind.i64.wrap ((j : Int) + 1) = (j : Int) + 1 := IntWalk.i64_in _ (by omega)
    have n5 : IntKind.i64.wrap (a + 1) = a + 1 := IntWalk.i64_in _ (by omega)
    have n6 : IntKind.i64.wrap (a + 1 + (j : Int)) = a + 1 + (j : Int) := IntWalk.i64_in _ (by omega)
    obtain ⟨v', w2, hap, hP2⟩ := hP.add (a, a + 1 + (j : Int)) (by simp only; omega) (by omega)
    simp only at hap
    refine at_seq rfl fun K8 hK8 => ?_
    (conv => arg 4; whnf)
    refine fw_region_lit rfl ?_
    simp [go_sem, opsF, opF, upF, Region.wanted, Fr.ev, Fr.put, thenE, inBlockE, Oper.semAt, yieldF, h4, h11, h12, h29, h33, h301, h302, d0]
    refine on_kf hK8 [(4, _), (11, _), (12, _), (29, _), (33, _), (301, _), (302, _), (303, _)] (fa_cons h4 (fa_cons h11 (fa_cons h12 (fa_cons h29 (fa_cons h33 (fa_cons h301 (fa_cons h302 (fa_cons (by simp [h4, h11, h12, h29, h33, h301, h302, d0] <;> rfl) fa_nil)))))))) hds ?_
    clear hK8 h4 h11 h12 h29 h33 h301 h302 hds; intro s hs hds
    obtain ⟨h4, h11, h12, h29, h33, h301, h302, h303⟩ := facts8 hs; clear hs
    refine at_seq rfl fun K9 hK9 => ?_
    refine at_true 303 rfl h303 ?_
    refine at_skip rfl ?_
    try simp only [inBlockE, thenE]
    refine hK9 _ _ ?_
    clear hK9
    refine at_seq rfl fun K10 hK10 => ?_
    refine at_block 8 rfl ?_
    refine at_seq rfl fun K11 hK11 => ?_
    (conv => arg 4; whnf)
    refine fw_region_lit rfl ?_
    simp [go_sem, opsF, opF, upF, Region.wanted, Fr.ev, Fr.put, thenE, inBlockE, Oper.semAt, yieldF, h4, h11, h12, h29, h33, h301, h302, h303]
    refine on_kf hK11 [(4, _), (11, _), (12, _), (29, _), (33, _), (34, _), (301, _), (302, _)] (fa_cons h4 (fa_cons h11 (fa_cons h12 (fa_cons h29 (fa_cons h33 (fa_cons (by simp [h4, h11, h12, h29, h33, h301, h302, h303] <;> rfl) (fa_cons h301 (fa_cons h302 fa_nil)))))))) hds ?_
    clear hK11 h4 h11 h12 h29 h33 h301 h302 h303 hds; intro s hs hds
    obtain ⟨h4, h11, h12, h29, h33, h34, h301, h302⟩ := facts8 hs; clear hs
    (conv => arg 4; whnf)
    refine fw_region_lit rfl ?_
    refine ops_take 8 fun KO hKO => ?_
    simp [go_sem, opsF, opF, upF, Region.wanted, Fr.ev, Fr.put, thenE, inBlockE, Oper.semAt, yieldF, h4, h11, h12, h29, h33, h34, h301, h302, n5, n6]
    refine hKO _ _ ?_
    clear hKO
    refine ops_append rfl rfl rfl (v := pv) (u := .slice (some ⟨w.heap.size, 0, none⟩) 1 1) (by simp [Fr.ev]) (by simp [Fr.ev]) hap ?_
    try simp [go_sem, opsF, opF, upF, Region.wanted, Fr.ev, Fr.put, thenE, inBlockE, Oper.semAt, yieldF, h4, h11, h12, h29, h33, h34, h301, h302]
    refine on_kf hK10 [(4, _), (11, _), (12, _), (29, _), (33, _), (301, _), (302, _)] (fa_cons h4 (fa_cons h11 (fa_cons h12 (fa_cons (by simp [h4, h11, h12, h29, h33, h34, h301, h302] <;> rfl) (fa_cons h33 (fa_cons h301 (fa_cons h302 fa_nil))))))) hds ?_
    clear hK10 h4 h11 h12 h29 h33 h34 h301 h302 hds; intro s hs hds
    obtain ⟨h4, h11, h12, h29, h33, h301, h302⟩ := facts7 hs; clear hs
    (conv => arg 4; whnf)
    refine fw_region_lit rfl ?_
    simp [go_sem, opsF, opF, upF, Region.wanted, Fr.ev, Fr.put, thenE, inBlockE, Oper.semAt, yieldF, h4, h11, h12, h29, h33, h301, h302, d1]
    exact ⟨kk - (j + 1), by omega, j + 1, v', ps ++ [(a, a + 1 + (j : Int))], by omega, rfl, by simp; omega, hP2, hds, by simp [h4], by simp [h11], by simp [h12], by simp [h29], by simp [h33], by simp [h301], by simp⟩
  · have d0 : ¬ (j : Int) < (kk : Int) := by omega
    refine at_seq rfl fun K12 hK12 => ?_
    (conv => arg 4; whnf)
    refine fw_region_lit rfl ?_
    simp [go_sem, opsF, opF, upF, Region.wanted, Fr.ev, Fr.put, thenE, inBlockE, Oper.semAt, yieldF, h4, h11, h12, h29, h33, h301, h302, d0]
    refine on_kf hK12 [(4, _), (11, _), (12, _), (29, _), (33, _), (301, _), (302, _), (303, _)] (fa_cons h4 (fa_cons h11 (fa_cons h12 (fa_cons h29 (fa_cons h33 (fa_cons h301 (fa_cons h302 (fa_cons (by simp [h4, h11, h12, h29, h33, h301, h302, d0] <;> rfl) fa_nil)))))))) hds ?_
    clear hK12 h4 h11 h12 h29 h33 h301 h302 hds; intro s hs hds
    obtain ⟨h4, h11, h12, h29, h33, h301, h302, h303⟩ := facts8 hs; clear hs
    refine at_seq rfl fun K13 hK13 => ?_
    refine at_false 303 rfl h303 ?_
    refine at_exit 7 rfl ?_
    simp only [inBlockE, thenE, if_true]
    exact hQ s w ⟨j, pv, ps, hj, by omega, hlen, hP, hds, h4, h11, h12, h29, h33, h301, h302⟩

set_option maxHeartbeats 4000000 in
theorem loop_sure (s : Fr) (w0 w : World) (Q : Exit → Fr → World → Prop) (low high : Int) (sure : Int) (m0 : Nat) (g1 : 1 ≤ low) (g2 : low < high) (g3 : high ≤ 400) (hsu : 0 ≤ sure ∧ sure ≤ 255)
    (h0 : SuI w0 low high sure m0 s w) (hQ : ∀ s w, (∃ m, SuI w0 low high sure m s w) → Q .normal s w) : FW Try.prog 448 none (sub body3 [1,0,1,0,1,1,1,1,1,1,1,1,1]) Q s w := by
  refine at_block 5 rfl ?_
  refine at_loop rfl (SuI w0 low high sure) m0 h0 ?_
  clear h0 s w
  rintro m s w ⟨a, pv, ps, ha1, ha2, rfl, hlen, hP, hds, h4, h11, h12, h29, h33⟩
  by_cases hlt : a < high
  · have m4 : Int.tmod sure 4 = sure % 4 := Int.tmod_eq_emod_of_nonneg (by omega)
    have u4 : IntKind.u8.wrap (sure % 4) = sure % 4 := IntWalk.u8_in _ (by omega)
    have v4 : IntKind.i64.wrap (sure % 4) = sure % 4 := IntWalk.i64_in _ (by omega)
    have z4 : IntKind.i64.wrap (1 + sure % 4) = 1 + sure % 4 := IntWalk.i64_in _ (by omega)
    have d1 : IntKind.i64.wrap (a + 1) = a + 1 := IntWalk.i64_in _ (by omega)
    obtain ⟨kk, hkk⟩ : ∃ kk : Nat, 1 + sure % 4 = (kk : Int) := ⟨(1 + sure % 4).toNat, by omega⟩
    have z4' : IntKind.i64.wrap (kk : Int) = (kk : Int) := IntWalk.i64_in _ (by omega)
    refine at_seq rfl fun K14 hK14 => ?_
    refine at_seq rfl fun K15 hK15 => ?_
    (conv => arg 4; whnf)
    refine fw_region_lit rfl ?_
    simp [go_sem, opsF, opF, upF, Region.wanted, Fr.ev, Fr.put, thenE, inBlockE, Oper.semAt, yieldF, h4, h11, h12, h29, h33, hlt]
    refine on_kf hK15 [(4, _), (11, _), (12, _), (29, _), (33, _), (295, _)] (fa_cons h4 (fa_cons h11 (fa_cons h12 (fa_cons h29 (fa_cons h33 (fa_cons (by simp [h4, h11, h12, h29, h33, hlt] <;> rfl) fa_nil)))))) hds ?_
    clear hK15 h4 h11 h12 h29 h33 hds; intro s hs hds
    obtain ⟨h4, h11, h12, h29, h33, h295⟩ := facts6 hs; clear hs
    refine at_true 295 rfl h295 ?_
    refine at_skip rfl ?_
    try simp only [inBlockE, thenE]
    refine hK14 _ _ ?_
    clear hK14
    refine at_seq rfl fun K16 hK16 => ?_
    refine at_block 6 rfl ?_
    refine at_seq rfl fun K17 hK17 => ?_
    (conv => arg 4; whnf)
    refine fw_region_lit rfl ?_
    simp [go_sem, opsF, opF, upF, Region.wanted, Fr.ev, Fr.put, thenE, inBlockE, Oper.semAt, yieldF, h4, h11, h12, h29, h33, h295, m4, u4, v4, hkk, z4']
    refine on_kf hK17 [(4, _), (11, _), (12, _), (29, _), (33, _), (301, _), (302, _)] (fa_cons h4 (fa_cons h11 (fa_cons h12 (fa_cons h29 (fa_cons h33 (fa_cons (by simp [h4, h11, h12, h29, h33, h295, m4, u4, v4, hkk, z4'] <;> rfl) (fa_cons (by simp [h4, h11, h12, h29, h33, h295, m4, u4, v4, hkk, z4'] <;> rfl) fa_nil))))))) hds ?_
    clear hK17 h4 h11 h12 h29 h33 h295 hds; intro s hs hds
    obtain ⟨h4, h11, h12, h29, h33, h301, h302⟩ := facts7 hs; clear hs
    refine loop_k s w0 w _ low high sure a ps.length kk g1 g2 g3 ⟨ha1, hlt⟩ (by omega) (by omega) ⟨0, pv, ps, by omega, by omega, by omega, hP, hds, h4, h11, h12, h29, h33, h301, by simpa using h302⟩ ?_
    clear h4 h11 h12 h29 h33 h301 h302 hds
    clear s
    rintro s w2 ⟨j, pv2, ps2, hj, hj2, hlen2, hP2, hds, h4, h11, h12, h29, h33, h301, h302⟩
    simp only [inBlockE, thenE]
    refine hK16 _ _ ?_
    clear hK16
    (conv => arg 4; whnf)
    refine fw_region_lit rfl ?_
    simp [go_sem, opsF, opF, upF, Region.wanted, Fr.ev, Fr.put, thenE, inBlockE, Oper.semAt, yieldF, h4, h11, h12, h29, h33, d1]
    exact ⟨(high - (a + 1)).toNat, by omega, a + 1, pv2, ps2, by omega, by omega, rfl, by omega, hP2, hds, by simp [h4], by simp [h11], by simp [h12], by simp [h29], by simp⟩
  · refine at_seq rfl fun K18 hK18 => ?_
    refine at_seq rfl fun K19 hK19 => ?_
    (conv => arg 4; whnf)
    refine fw_region_lit rfl ?_
    simp [go_sem, opsF, opF, upF, Region.wanted, Fr.ev, Fr.put, thenE, inBlockE, Oper.semAt, yieldF, h4, h11, h12, h29, h33, hlt]
    refine on_kf hK19 [(4, _), (11, _), (12, _), (29, _), (33, _), (295, _)] (fa_cons h4 (fa_cons h11 (fa_cons h12 (fa_cons h29 (fa_cons h33 (fa_cons (by simp [h4, h11, h12, h29, h33, hlt] <;> rfl) fa_nil)))))) hds ?_
    clear hK19 h4 h11 h12 h29 h33 hds; intro s hs hds
    obtain ⟨h4, h11, h12, h29, h33, h295⟩ := facts6 hs; clear hs
    refine at_false 295 rfl h295 ?_
    refine at_exit 5 rfl ?_
    simp only [inBlockE, thenE, if_true]
    exact hQ s w ⟨_, a, pv, ps, ha1, ha2, rfl, hlen, hP, hds, h4, h11, h12, h29, h33⟩
end Go.Proofs.Ytiejaopidkghdac
