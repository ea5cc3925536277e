/- The law's look at all providers. -/
import Derived.Test.YtiejaopidkghdaaFp
namespace Go.Proofs.Ytiejaopidkghdaa
set_option linter.unusedSimpArgs false
set_option linter.unusedVariables false
open Go.RowKit Go.Lf

set_option maxHeartbeats 1000000 in
theorem seg55 (s : Fr) (w00 w : World) (K : Fr → World → Prop) (Q : Exit → Fr → World → Prop) (N : Int) (fb : Nat) (l : List Rq) (S : Nat → Prop) (ov rv : Value) (ys : List Value) (id : Int) (m k : Nat) (who : Int) (pv : Value)
    (hs : FS N fb ov rv id m k s) (h24 : s.t 24 = .int .i64 who) (h25 : s.t 25 = pv) (h26 : s.t 26 = .int .i64 ((l.filter (askHas who)).length : Int)) (hL : LW w00 fb N l S ov rv m ys w) (hp : PI N l) (hll : l.length ≤ 200)
    (hrow : Row w 3 1 pv (l.filter (askWaits who)).length ((l.filter (askWaits who)).map fun r => .int .i64 r.id))
    (hK : ∀ s w', FS N fb ov rv id m k s → s.t 24 = .int .i64 who → LW w00 fb N l S ov rv m ys w' → K s w') :
    FW Try.prog 303 none (sub body3 [1,1,1,0,0,1,0,0,1,0,1,1,1,1,1,0,0,1,1,0,0,1,0,1,1,1,1,1,1]) (inBlockE 5 (thenE K Q)) s w := by
  obtain ⟨h5, h6, h8, h15, h63, h64, h65, hds⟩ := hs
  obtain ⟨ad, cp, hov⟩ : ∃ ad cp, ov = .slice ad l.length cp := by
    rcases hL.own.val with ⟨h, h', _⟩ | ⟨g, cap, h, _⟩
    · exact ⟨none, 0, by rw [h, h']⟩
    · exact ⟨_, cap, h⟩
  subst hov
  have d1 : IntKind.i64.wrap ((l.length : Int) + 1) = (l.length : Int) + 1 := IntWalk.i64_in _ (by omega)
  generalize hcc : ((l.filter (askHas who)).length : Int) = c at *
  refine at_seq rfl fun K1 hK1 => ?_
  (conv => arg 4; whnf)
  refine fw_region_lit rfl ?_
  refine ops_take 3 fun KO hKO => ?_
  simp [go_sem, opsF, opF, upF, Region.wanted, Fr.ev, Fr.put, thenE, inBlockE, Oper.semAt, yieldF, h5, h6, h8, h15, h24, h25, h26, h63, h64, h65]
  refine (open_any fb N l S who w hL.fl (by omega)).on ?_
  rintro v w1 ⟨hrow1, hw1, _⟩
  have hL1 := hL.new hw1
  have hrow' := hrow.frm hw1 (fun _ _ h => h)
  refine hKO _ _ ?_
  clear hKO
  try simp only [List.drop_succ_cons, List.drop_zero]
  refine ops_take 2 fun KO hKO => ?_
  simp [go_sem, opsF, opF, upF, Region.wanted, Fr.ev, Fr.put, thenE, inBlockE, Oper.semAt, yieldF, h5, h6, h8, h15, h24, h25, h26, h63, h64, h65]
  have heq := equalInt_any v pv ((l.filter (askWaits who)).map (·.id)) w1 (by simpa [List.map_map, Function.comp_def] using hrow1) (by simpa [List.map_map, Function.comp_def] using hrow')
  refine heq.on ?_
  rintro _ w2 ⟨rfl, hw2⟩
  have hL2 := hL1.new hw2
  refine hKO _ _ ?_
  clear hKO
  try simp only [List.drop_succ_cons, List.drop_zero]
  refine ops_take 5 fun KO hKO => ?_
  simp [go_sem, opsF, opF, upF, Region.wanted, Fr.ev, Fr.put, thenE, inBlockE, Oper.semAt, yieldF, h5, h6, h8, h15, h24, h25, h26, h63, h64, h65]
  refine (count_any fb N l S who w2 hL2.fl (by omega)).on ?_
  rintro _ w3 ⟨rfl, hw3⟩
  rw [hcc]
  have hL3 := hL2.new hw3
  refine hKO _ _ ?_
  clear hKO
  obtain ⟨mb, lv, F, hfl, _⟩ := hL3.fl.ex
  try simp only [List.drop_succ_cons, List.drop_zero]
  refine ops_take 7 fun KO hKO => ?_
  simp [go_sem, opsF, opF, upF, Region.wanted, Fr.ev, Fr.put, thenE, inBlockE, Oper.semAt, yieldF, h5, h6, h8, h15, h24, h25, h26, h63, h64, h65]
  refine (is_no fb mb N lv l 0 who w3 hfl (.inl (by omega))).on ?_
  rintro _ w4 ⟨rfl, rfl⟩
  refine hKO _ _ ?_
  clear hKO
  try simp only [List.drop_succ_cons, List.drop_zero]
  refine ops_take 9 fun KO hKO => ?_
  simp [go_sem, opsF, opF, upF, Region.wanted, Fr.ev, Fr.put, thenE, inBlockE, Oper.semAt, yieldF, h5, h6, h8, h15, h24, h25, h26, h63, h64, h65, d1]
  refine (is_no fb mb N lv l ((l.length : Int) + 1) who w3 hfl (.inr (by omega))).on ?_
  rintro _ w4 ⟨rfl, rfl⟩
  refine hKO _ _ ?_
  clear hKO
  simp [go_sem, opsF, opF, upF, Region.wanted, Fr.ev, Fr.put, thenE, inBlockE, Oper.semAt, yieldF, h5, h6, h8, h15, h24, h25, h26, h63, h64, h65]
  refine on_kf hK1 [(5, .int .i64 N), (6, .pointer (some ⟨fb, 0, none⟩)), (8, .slice ad l.length cp), (15, .int .i64 id), (24, .int .i64 who), (25, pv), (26, .int .i64 c), (63, rv), (64, .int .i64 (m : Int)), (65, .int .i64 (k : Int)), (263, .bool false)] (by simp [h5, h6, h8, h15, h24, h25, h26, h63, h64, h65]) hds ?_
  clear hK1 h5 h6 h8 h15 h24 h25 h26 h63 h64 h65 hds; intro s hs hds
  obtain ⟨h5, h6, h8, h15, h24, h25, h26, h63, h64, h65, h263⟩ := facts11 hs; clear hs
  refine at_false 263 rfl h263 ?_
  refine at_skip rfl ?_
  exact hK s w3 ⟨h5, h6, h8, h15, h63, h64, h65, hds⟩ h24 hL3
end Go.Proofs.Ytiejaopidkghdaa
