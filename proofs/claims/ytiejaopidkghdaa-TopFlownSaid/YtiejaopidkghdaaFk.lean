/- The law's state; asking, as the law does it. -/
import Derived.Test.YtiejaopidkghdaaFj
namespace Go.Proofs.Ytiejaopidkghdaa
set_option linter.unusedSimpArgs false
set_option linter.unusedVariables false
open Go.RowKit Go.Lf

/-- The law's memory. -/
structure LW (w0 : World) (fb : Nat) (N : Int) (l : List Rq) (S : Nat → Prop) (ov rv : Value) (m : Nat) (ys : List Value) (w : World) : Prop where
  nw : New w0 w
  fl : Flight w fb N l S
  own : Row w 31 5 ov l.length (cellsOf l)
  known : Row w 28 3 rv m ys
  hS : ∀ b, S b → w0.heap.size ≤ b
  ho : ∀ b, ov.ownBlock = some b → w0.heap.size ≤ b ∧ ¬ S b
  hr : ∀ b, rv.ownBlock = some b → w0.heap.size ≤ b ∧ ¬ S b
  hro : ∀ b, rv.ownBlock = some b → ov.ownBlock = some b → False

theorem LW.new {w0 w w' : World} {fb : Nat} {N : Int} {l : List Rq} {S : Nat → Prop} {ov rv : Value} {m : Nat} {ys : List Value} (h : LW w0 fb N l S ov rv m ys w) (hf : New w w') : LW w0 fb N l S ov rv m ys w' :=
  ⟨New.trans h.nw hf, h.fl.frm hf (fun _ _ h => h), h.own.frm hf (fun _ _ h => h), h.known.frm hf (fun _ _ h => h), h.hS, h.ho, h.hr, h.hro⟩

/-- The flight turned. -/
theorem LW.flight {w0 w w' : World} {fb : Nat} {N : Int} {l l' : List Rq} {S S' : Nat → Prop} {ov ov' rv : Value} {m : Nat} {ys : List Value} (h : LW w0 fb N l S ov rv m ys w) (hf : Frm S w w') (hfl : Flight w' fb N l' S') (hS : ∀ b, S' b → S b ∨ w.heap.size ≤ b)
    (ho : Row w 31 5 ov' l'.length (cellsOf l')) (hob : ∀ b, ov'.ownBlock = some b → w0.heap.size ≤ b ∧ ¬ S b ∧ (rv.ownBlock = some b → False)) : LW w0 fb N l' S' ov' rv m ys w' := by
  refine ⟨h.nw.trans hf (fun i hi hs => by have := h.hS i hs; omega), hfl, ho.frm hf (fun k hk => (hob k hk).2.1), h.known.frm hf (fun k hk => (h.hr k hk).2), ?_, ?_, ?_, ?_⟩
  · intro b hb
    rcases hS b hb with hb | hb
    · exact h.hS b hb
    · have := h.nw.size; omega
  · intro b hb
    refine ⟨(hob b hb).1, fun hs => ?_⟩
    rcases hS b hs with hs | hs
    · exact (hob b hb).2.1 hs
    · have := ho.lt b hb; omega
  · intro b hb
    refine ⟨(h.hr b hb).1, fun hs => ?_⟩
    rcases hS b hs with hs | hs
    · exact (h.hr b hb).2 hs
    · have := h.known.lt b hb; omega
  · intro b hb hb'
    exact (hob b hb').2.2 hb

/-- The law's slots between the parts of a round. -/
structure FS (N : Int) (fb : Nat) (ov rv : Value) (id : Int) (m k : Nat) (s : Fr) : Prop where
  t5 : s.t 5 = .int .i64 N
  t6 : s.t 6 = .pointer (some ⟨fb, 0, none⟩)
  t8 : s.t 8 = ov
  t15 : s.t 15 = .int .i64 id
  t63 : s.t 63 = rv
  t64 : s.t 64 = .int .i64 (m : Int)
  t65 : s.t 65 = .int .i64 (k : Int)
  ds : s.ds = []

/-- What the list must be. -/
structure PI (N : Int) (l : List Rq) : Prop where
  each : ∀ (i : Nat) (r : Rq), l[i]? = some r → r.id = (i : Int) + 1 ∧ 0 ≤ r.to ∧ r.to < N ∧ 1 ≤ r.h ∧ r.h ≤ 5
  uniq : ∀ (i j : Nat) (a b : Rq), l[i]? = some a → l[j]? = some b → a.op = true → b.op = true → a.to = b.to → a.h = b.h → i = j

theorem segAsk2 (s : Fr) (w : World) (K : Fr → World → Prop) (Q : Exit → Fr → World → Prop) (N : Int) (fb : Nat) (ov rv : Value) (id : Int) (m k b1 b2 : Nat) (to h now d e : Int) (f : Bool) (R : World → Prop)
    (hs : FS N fb ov rv id m k s) (h12 : s.t 12 = .pointer (some ⟨b1, 0, none⟩)) (h13 : s.t 13 = .pointer (some ⟨b2, 0, none⟩)) (h14 : s.t 14 = .int .i64 now) (h17 : s.t 17 = .int .i64 d) (h18 : s.t 18 = .bool f) (h19 : s.t 19 = .int .i64 e)
    (hb1 : Blk w b1 #[.int .i64 to] 3) (hb2 : Blk w b2 #[.int .i64 h] 3)
    (hc : CallsV Try.prog 8 #[.pointer (some ⟨fb, 0, none⟩), .int .i64 to, .int .i64 h, .int .i64 now] w fun v w' => v = .tuple #[.int .i64 d, .bool f, .int .i64 e] ∧ R w')
    (hK : ∀ s w', FS N fb ov rv id m k s → R w' → K s w') : FW Try.prog 303 none (sub body3 [1,1,1,0,1,0,1,1,1,0,0,1,1,0,0,1,0,1,1,1,1,1,1]) (thenE K Q) s w := by
  obtain ⟨h5, h6, h8, h15, h63, h64, h65, hds⟩ := hs
  have y1 := hb1.cell 0
  have y2 := hb2.cell 0
  refine at_seq rfl fun K1 hK1 => ?_
  (conv => arg 4; whnf)
  refine fw_region_lit rfl ?_
  simp [go_sem, opsF, opF, upF, Region.wanted, Fr.ev, Fr.put, thenE, inBlockE, Oper.semAt, yieldF, h5, h6, h8, h12, h13, h14, h15, h17, h18, h19, h63, h64, h65, y1, y2]
  refine hc.on ?_
  rintro v w1 ⟨rfl, hR⟩
  refine on_kf hK1 [(5, .int .i64 N), (6, .pointer (some ⟨fb, 0, none⟩)), (8, ov), (15, .int .i64 id), (17, .int .i64 d), (18, .bool f), (19, .int .i64 e), (20, .int .i64 d), (21, .bool f), (22, .int .i64 e), (63, rv), (64, .int .i64 (m : Int)), (65, .int .i64 (k : Int))] (by simp [h5, h6, h8, h12, h13, h14, h15, h17, h18, h19, h63, h64, h65]) hds ?_
  clear hK1 h5 h6 h8 h12 h13 h14 h15 h17 h18 h19 h63 h64 h65 hds; intro s hs hds
  obtain ⟨h5, h6, h8, h15, h17, h18, h19, h20, h21, h22, h63, h64, h65⟩ := facts13 hs; clear hs
  refine at_seq rfl fun K2 hK2 => ?_
  (conv => arg 4; whnf)
  refine fw_region_lit rfl ?_
  simp [go_sem, opsF, opF, upF, Region.wanted, Fr.ev, Fr.put, thenE, inBlockE, Oper.semAt, yieldF, h5, h6, h8, h15, h17, h18, h19, h20, h21, h22, h63, h64, h65]
  refine on_kf hK2 [(5, .int .i64 N), (6, .pointer (some ⟨fb, 0, none⟩)), (8, ov), (15, .int .i64 id), (63, rv), (64, .int .i64 (m : Int)), (65, .int .i64 (k : Int)), (153, .bool false)] (by simp [h5, h6, h8, h15, h17, h18, h19, h20, h21, h22, h63, h64, h65]) hds ?_
  clear hK2 h5 h6 h8 h15 h17 h18 h19 h20 h21 h22 h63 h64 h65 hds; intro s hs hds
  obtain ⟨h5, h6, h8, h15, h63, h64, h65, h153⟩ := facts8 hs; clear hs
  refine at_false 153 rfl h153 ?_
  refine at_skip rfl ?_
  exact hK _ _ ⟨h5, h6, h8, h15, h63, h64, h65, hds⟩ hR
end Go.Proofs.Ytiejaopidkghdaa
