/- The walk over requests, as a function that is ranged over. -/
import Derived.Test.YtiejaopidkghdaaFe
import Derived.Test.YtiejaopidkghdaaKf
namespace Go.Proofs.Ytiejaopidkghdaa
set_option linter.unusedSimpArgs false
set_option linter.unusedVariables false
open Go.RowKit Go.Lf

theorem some_any (a : Value) (fv : Value) (w : World) (ha : ∃ x, a = .pointer x) (hf : ∃ f cs, fv = .func f cs #[]) :
    CallsV Try.prog 19 #[a, fv] w fun v w' => ∃ b2 b3, v = .func (.func 23) #[] #[.pointer (some ⟨b2, 0, none⟩), .pointer (some ⟨b3, 0, none⟩)] ∧ New w w' ∧ w'.cell? ⟨b2, 0, none⟩ = some a ∧ w'.cell? ⟨b3, 0, none⟩ = some fv ∧ w.heap.size ≤ b2 ∧ w.heap.size ≤ b3 := by
  obtain ⟨x, rfl⟩ := ha
  obtain ⟨f, cs, rfl⟩ := hf
  go_enter Try.func19, Try.ntmps19
  go_wp2
  go_ret
  have h1 := Blk.new w #[.pointer x] 23
  have h2 := Blk.new (w.alloc (.cells #[.pointer x] 23)) #[.func f cs #[]] 32
  rw [World.size_alloc] at h2
  have hA := Frm.alloc (fun _ => False) w (.cells #[.pointer x] 23)
  have hB := Frm.alloc (fun _ => False) (w.alloc (.cells #[.pointer x] 23)) (.cells #[.func f cs #[]] 32)
  exact ⟨_, rfl, w.heap.size, w.heap.size + 1, rfl, New.trans hA hB, (h1.frm hB (fun h => h)).cell 0, h2.cell 0, by omega, by omega⟩

noncomputable def body23 : Code := Try.f23.body.getD .skip

def ItI (J : Nat → World → Prop) (l : List Rq) (ask : Rq → Bool) (L b2 b3 : Nat) (ad : Option Addr) (cp : Nat) (m : Nat) (s : Fr) (w : World) : Prop :=
  ∃ i : Nat, i ≤ l.length ∧ m = l.length - i ∧ s.ds = [] ∧ s.t 0 = .func (.yield L) #[] #[] ∧ s.t 1 = .pointer (some ⟨b2, 0, none⟩) ∧ s.t 2 = .pointer (some ⟨b3, 0, none⟩) ∧ s.t 11 = .slice ad l.length cp ∧ s.t 12 = .int .i64 (l.length : Int) ∧
    s.t 13 = .int .i64 (i : Int) ∧ J ((l.take i).filter ask).length w

theorem iter_any (fb mb : Nat) (N : Int) (lv : Value) (l : List Rq) (ask : Rq → Bool) (fa : Nat) (first : Array Value) (L b2 b3 : Nat) (J : Nat → World → Prop) (w : World)
    (hcf : ∀ (args : Array Value) (w : World), (callFunc fa args).run Try.prog w = .ok (.enter fa args) w)
    (hp : ∀ r w1, CallsV Try.prog fa (first.push (Rq.agg r)) w1 fun v w' => v = .bool (ask r) ∧ New w1 w')
    (hJ : ∀ k w w', J k w → New w w' → J k w')
    (hread : ∀ k w, J k w → Fl w fb mb N lv l ∧ w.cell? ⟨b2, 0, none⟩ = some (.pointer (some ⟨fb, 0, none⟩)) ∧ w.cell? ⟨b3, 0, none⟩ = some (.func (.func fa) first #[]))
    (hy : ∀ k r w, (l.filter ask)[k]? = some r → J k w → YieldV Try.prog L #[Rq.agg r] w fun v w' => v = .bool true ∧ J (k + 1) w') (h0J : J 0 w) :
    CallsV Try.prog 23 #[.func (.yield L) #[] #[], .pointer (some ⟨b2, 0, none⟩), .pointer (some ⟨b3, 0, none⟩)] w fun _ w' => J (l.filter ask).length w' := by
  obtain ⟨hfl, k2, k3⟩ := hread 0 w h0J
  have c1 := hfl.blk.cell 1
  have c2 : w.cell? ⟨fb, 2, none⟩ = some (.map (some mb)) := hfl.blk.cell 2
  have hnn := none_any fb (some mb) w c2
  obtain ⟨ad, cp, hlv, had⟩ : ∃ ad cp, lv = .slice ad l.length cp ∧ (0 < l.length → ∃ g, ad = some ⟨g, 0, none⟩) := by
    rcases hfl.row.val with ⟨h, h', _⟩ | ⟨g, cap, h, _⟩
    · exact ⟨none, 0, by rw [h, h'], fun h => by omega⟩
    · exact ⟨_, cap, h, fun _ => ⟨g, rfl⟩⟩
  have hlen : l.length ≤ 9223372036854775807 := by
    rcases hfl.row.val with ⟨_, h', _⟩ | ⟨g, cap, _, h, h'⟩
    · omega
    · unfold maxLen at h'; omega
  subst hlv
  refine calls_at body23 Try.func23 rfl 27 rfl (by simp) fun s hs hds => ?_
  have h0 := hs 0 _ rfl
  have h1 := hs 1 _ rfl
  have h2 := hs 2 _ rfl
  clear hs
  refine at_seq rfl fun K1 hK1 => ?_
  refine at_seq rfl fun K2 hK2 => ?_
  (conv => arg 4; whnf)
  refine fw_region_lit rfl ?_
  simp [go_sem, opsF, opF, upF, Region.wanted, Fr.ev, Fr.put, thenE, inBlockE, Oper.semAt, yieldF, h0, h1, h2, k2]
  refine hnn.on ?_
  rintro v w' ⟨rfl, rfl⟩
  refine on_kf hK2 [(0, .func (.yield L) #[] #[]), (1, .pointer (some ⟨b2, 0, none⟩)), (2, .pointer (some ⟨b3, 0, none⟩)), (7, .bool false)] (by simp [h0, h1, h2]) hds ?_
  clear hK2 h0 h1 h2 hds; intro s hs hds
  obtain ⟨h0, h1, h2, h7⟩ := facts4 hs; clear hs
  refine at_false 7 rfl h7 ?_
  refine at_skip rfl ?_
  simp only [inBlockE, thenE]
  refine on_kf hK1 [(0, .func (.yield L) #[] #[]), (1, .pointer (some ⟨b2, 0, none⟩)), (2, .pointer (some ⟨b3, 0, none⟩))] (by simp [h0, h1, h2, h7]) hds ?_
  clear hK1 h0 h1 h2 h7 hds; intro s hs hds
  obtain ⟨h0, h1, h2⟩ := facts3 hs; clear hs
  refine at_seq rfl fun K3 hK3 => ?_
  (conv => arg 4; whnf)
  refine fw_region_lit rfl ?_
  simp [go_sem, opsF, opF, upF, Region.wanted, Fr.ev, Fr.put, thenE, inBlockE, Oper.semAt, yieldF, h0, h1, h2, k2, c1]
  refine on_kf hK3 [(0, .func (.yield L) #[] #[]), (1, .pointer (some ⟨b2, 0, none⟩)), (2, .pointer (some ⟨b3, 0, none⟩)), (11, .slice ad l.length cp), (12, .int .i64 (l.length : Int)), (13, .int .i64 ((0 : Nat) : Int))] (by simp [h0, h1, h2]) hds ?_
  clear hK3 h0 h1 h2 hds; intro s hs hds
  obtain ⟨h0, h1, h2, h11, h12, h13⟩ := facts6 hs; clear hs
  refine at_block 0 rfl ?_
  refine at_loop rfl (ItI J l ask L b2 b3 ad cp) l.length ⟨0, by omega, by omega, hds, h0, h1, h2, h11, h12, h13, h0J⟩ ?_
  clear h0 h1 h2 h11 h12 h13 hds s hfl k2 k3 c1 c2 hnn h0J
  rintro m s w ⟨i, hi, rfl, hds, h0, h1, h2, h11, h12, h13, hJi⟩
  obtain ⟨hfl, k2, k3⟩ := hread _ w hJi
  by_cases hlt : i < l.length
  · have d0 : (i : Int) < (l.length : Int) := by omega
    refine at_seq rfl fun K4 hK4 => ?_
    (conv => arg 4; whnf)
    refine fw_region_lit rfl ?_
    simp [go_sem, opsF, opF, upF, Region.wanted, Fr.ev, Fr.put, thenE, inBlockE, Oper.semAt, yieldF, h0, h1, h2, h11, h12, h13, d0]
    refine on_kf hK4 [(0, .func (.yield L) #[] #[]), (1, .pointer (some ⟨b2, 0, none⟩)), (2, .pointer (some ⟨b3, 0, none⟩)), (11, .slice ad l.length cp), (12, .int .i64 (l.length : Int)), (13, .int .i64 (i : Int)), (14, .bool true)] (by simp [h0, h1, h2, h11, h12, h13]) hds ?_
    clear hK4 h0 h1 h2 h11 h12 h13 hds; intro s hs hds
    obtain ⟨h0, h1, h2, h11, h12, h13, h14⟩ := facts7 hs; clear hs
    refine at_seq rfl fun K5 hK5 => ?_
    refine at_true 14 rfl h14 ?_
    refine at_skip rfl ?_
    simp only [inBlockE, thenE]
    refine on_kf hK5 [(0, .func (.yield L) #[] #[]), (1, .pointer (some ⟨b2, 0, none⟩)), (2, .pointer (some ⟨b3, 0, none⟩)), (11, .slice ad l.length cp), (12, .int .i64 (l.length : Int)), (13, .int .i64 (i : Int))] (by simp [h0, h1, h2, h11, h12, h13, h14]) hds ?_
    clear hK5 h0 h1 h2 h11 h12 h13 h14 hds; intro s hs hds
    obtain ⟨h0, h1, h2, h11, h12, h13⟩ := facts6 hs; clear hs
    refine at_seq rfl fun K6 hK6 => ?_
    refine at_block 1 rfl ?_
    obtain ⟨g, rfl⟩ := had (by omega)
    obtain ⟨r, hri⟩ : ∃ r, l[i]? = some r := ⟨l[i], by simp [hlt]⟩
    obtain ⟨e0, e1, e2, e3, e4⟩ := hfl.cells hri
    refine at_seq rfl fun K7 hK7 => ?_
    (conv => arg 4; whnf)
    refine fw_region_lit rfl ?_
    simp [go_sem, opsF, opF, upF, Region.wanted, Fr.ev, Fr.put, thenE, inBlockE, Oper.semAt, yieldF, h0, h1, h2, h11, h12, h13, hlt, e0, e1, e2, e3, e4]
    have hA := Frm.alloc (fun _ => False) w (.cells #[.int .i64 r.id, .int .i64 r.to, .int .i64 r.h, .int .i64 r.tm, .bool r.op] 31)
    have hN := Blk.new w #[.int .i64 r.id, .int .i64 r.to, .int .i64 r.h, .int .i64 r.tm, .bool r.op] 31
    have hJA := hJ _ _ _ hJi hA
    refine on_kf hK7 [(0, .func (.yield L) #[] #[]), (1, .pointer (some ⟨b2, 0, none⟩)), (2, .pointer (some ⟨b3, 0, none⟩)), (5, .pointer (some ⟨w.heap.size, 0, none⟩)), (11, .slice (some ⟨g, 0, none⟩) l.length cp), (12, .int .i64 (l.length : Int)), (13, .int .i64 (i : Int))] (by simp [h0, h1, h2, h11, h12, h13]) hds ?_
    clear hK7 h0 h1 h2 h11 h12 h13 hds; intro s hs hds
    obtain ⟨h0, h1, h2, h5, h11, h12, h13⟩ := facts7 hs; clear hs
    generalize w.alloc (.cells #[.int .i64 r.id, .int .i64 r.to, .int .i64 r.h, .int .i64 r.tm, .bool r.op] 31) = wA at *
    generalize w.heap.size = bx at *
    clear e0 e1 e2 e3 e4 k2 k3 hfl
    obtain ⟨hfl, k2, k3⟩ := hread _ wA hJA
    have e0 : wA.cell? ⟨bx, 0, none⟩ = some (.int .i64 r.id) := hN.cell 0
    have e1 : wA.cell? ⟨bx, 1, none⟩ = some (.int .i64 r.to) := hN.cell 1
    have e2 : wA.cell? ⟨bx, 2, none⟩ = some (.int .i64 r.h) := hN.cell 2
    have e3 : wA.cell? ⟨bx, 3, none⟩ = some (.int .i64 r.tm) := hN.cell 3
    have e4 : wA.cell? ⟨bx, 4, none⟩ = some (.bool r.op) := hN.cell 4
    refine at_seq rfl fun K8 hK8 => ?_
    (conv => arg 4; whnf)
    refine fw_region_lit rfl ?_
    refine ops_take 3 fun KO hKO => ?_
    simp [go_sem, opsF, opF, upF, Region.wanted, Fr.ev, Fr.put, thenE, inBlockE, Oper.semAt, yieldF, h0, h1, h2, h5, h11, h12, h13, k3, e0, e1, e2, e3, e4, hcf]
    refine (hp r wA).on ?_
    rintro v w1 ⟨rfl, hw1⟩
    refine hKO _ _ ?_
    clear hKO
    have hJ1 := hJ _ _ _ hJA hw1
    have hN1 := hN.frm hw1 (fun h => h)
    have e0 : w1.cell? ⟨bx, 0, none⟩ = some (.int .i64 r.id) := hN1.cell 0
    have e1 : w1.cell? ⟨bx, 1, none⟩ = some (.int .i64 r.to) := hN1.cell 1
    have e2 : w1.cell? ⟨bx, 2, none⟩ = some (.int .i64 r.h) := hN1.cell 2
    have e3 : w1.cell? ⟨bx, 3, none⟩ = some (.int .i64 r.tm) := hN1.cell 3
    have e4 : w1.cell? ⟨bx, 4, none⟩ = some (.bool r.op) := hN1.cell 4
    have d1 : IntKind.i64.wrap ((i : Int) + 1) = (i : Int) + 1 := IntWalk.i64_in _ (by omega)
    have htk : (l.take (i + 1)).filter ask = (l.take i).filter ask ++ if ask r = true then [r] else [] := by
      rw [List.take_add_one, hri]
      simp [List.filter_cons]
    cases hask : ask r
    · simp [go_sem, opsF, opF, upF, Region.wanted, Fr.ev, Fr.put, thenE, inBlockE, Oper.semAt, yieldF, h0, h1, h2, h5, h11, h12, h13]
      refine on_kf hK8 [(0, .func (.yield L) #[] #[]), (1, .pointer (some ⟨b2, 0, none⟩)), (2, .pointer (some ⟨b3, 0, none⟩)), (5, .pointer (some ⟨bx, 0, none⟩)), (11, .slice (some ⟨g, 0, none⟩) l.length cp), (12, .int .i64 (l.length : Int)), (13, .int .i64 (i : Int)), (25, .bool false)] (by simp [h0, h1, h2, h5, h11, h12, h13]) hds ?_
      clear hK8 h0 h1 h2 h5 h11 h12 h13 hds; intro s hs hds
      obtain ⟨h0, h1, h2, h5, h11, h12, h13, h25⟩ := facts8 hs; clear hs
      refine at_false 25 rfl h25 ?_
      refine at_skip rfl ?_
      simp only [inBlockE, thenE]
      refine on_kf hK6 [(0, .func (.yield L) #[] #[]), (1, .pointer (some ⟨b2, 0, none⟩)), (2, .pointer (some ⟨b3, 0, none⟩)), (11, .slice (some ⟨g, 0, none⟩) l.length cp), (12, .int .i64 (l.length : Int)), (13, .int .i64 (i : Int))] (by simp [h0, h1, h2, h5, h11, h12, h13, h25]) hds ?_
      clear hK6 h0 h1 h2 h5 h11 h12 h13 h25 hds; intro s hs hds
      obtain ⟨h0, h1, h2, h11, h12, h13⟩ := facts6 hs; clear hs
      (conv => arg 4; whnf)
      refine fw_region_lit rfl ?_
      simp [go_sem, opsF, opF, upF, Region.wanted, Fr.ev, Fr.put, thenE, inBlockE, Oper.semAt, yieldF, h0, h1, h2, h11, h12, h13, d1]
      refine ⟨l.length - (i + 1), by omega, i + 1, by omega, rfl, by simp [hds], by simp [h0], by simp [h1], by simp [h2], by simp [h11], by simp [h12], by simp, ?_⟩
      rw [htk, hask]
      simpa using hJ1
    · have hki : (l.filter ask)[((l.take i).filter ask).length]? = some r := by
        have h1 : l.filter ask = (l.take i).filter ask ++ (l.drop i).filter ask := by rw [← List.filter_append, List.take_append_drop]
        have h2 : l.drop i = r :: l.drop (i + 1) := by
          rw [List.drop_eq_getElem_cons hlt]
          congr 1
          have := List.getElem?_eq_getElem hlt
          rw [hri] at this
          exact (Option.some.inj this).symm
        rw [h1, h2, List.filter_cons, if_pos hask, List.getElem?_append_right (Nat.le_refl _)]
        simp
      obtain ⟨yf, yt, ya, yb, hyr, hyv⟩ := hy _ r w1 hki hJ1
      unfold Rq.agg at hyr
      try simp only [List.drop_succ_cons, List.drop_zero]
      refine ops_take 4 fun KO hKO => ?_
      simp [go_sem, opsF, opF, upF, Region.wanted, Fr.ev, Fr.put, thenE, inBlockE, Oper.semAt, yieldF, h0, h1, h2, h5, h11, h12, h13, e0, e1, e2, e3, e4, hyr]
      refine hyv.on ?_
      rintro v w2 ⟨rfl, hJ2⟩
      refine hKO _ _ ?_
      clear hKO
      simp [go_sem, opsF, opF, upF, Region.wanted, Fr.ev, Fr.put, thenE, inBlockE, Oper.semAt, yieldF, h0, h1, h2, h5, h11, h12, h13]
      refine on_kf hK8 [(0, .func (.yield L) #[] #[]), (1, .pointer (some ⟨b2, 0, none⟩)), (2, .pointer (some ⟨b3, 0, none⟩)), (5, .pointer (some ⟨bx, 0, none⟩)), (11, .slice (some ⟨g, 0, none⟩) l.length cp), (12, .int .i64 (l.length : Int)), (13, .int .i64 (i : Int)), (25, .bool false)] (by simp [h0, h1, h2, h5, h11, h12, h13]) hds ?_
      clear hK8 h0 h1 h2 h5 h11 h12 h13 hds; intro s hs hds
      obtain ⟨h0, h1, h2, h5, h11, h12, h13, h25⟩ := facts8 hs; clear hs
      refine at_false 25 rfl h25 ?_
      refine at_skip rfl ?_
      simp only [inBlockE, thenE]
      refine on_kf hK6 [(0, .func (.yield L) #[] #[]), (1, .pointer (some ⟨b2, 0, none⟩)), (2, .pointer (some ⟨b3, 0, none⟩)), (11, .slice (some ⟨g, 0, none⟩) l.length cp), (12, .int .i64 (l.length : Int)), (13, .int .i64 (i : Int))] (by simp [h0, h1, h2, h5, h11, h12, h13, h25]) hds ?_
      clear hK6 h0 h1 h2 h5 h11 h12 h13 h25 hds; intro s hs hds
      obtain ⟨h0, h1, h2, h11, h12, h13⟩ := facts6 hs; clear hs
      (conv => arg 4; whnf)
      refine fw_region_lit rfl ?_
      simp [go_sem, opsF, opF, upF, Region.wanted, Fr.ev, Fr.put, thenE, inBlockE, Oper.semAt, yieldF, h0, h1, h2, h11, h12, h13, d1]
      refine ⟨l.length - (i + 1), by omega, i + 1, by omega, rfl, by simp [hds], by simp [h0], by simp [h1], by simp [h2], by simp [h11], by simp [h12], by simp, ?_⟩
      rw [htk, hask]
      simpa using hJ2
  · have d0 : ¬ (i : Int) < (l.length : Int) := by omega
    refine at_seq rfl fun K9 hK9 => ?_
    (conv => arg 4; whnf)
    refine fw_region_lit rfl ?_
    simp [go_sem, opsF, opF, upF, Region.wanted, Fr.ev, Fr.put, thenE, inBlockE, Oper.semAt, yieldF, h0, h1, h2, h11, h12, h13, d0]
    refine on_kf hK9 [(0, .func (.yield L) #[] #[]), (1, .pointer (some ⟨b2, 0, none⟩)), (2, .pointer (some ⟨b3, 0, none⟩)), (11, .slice ad l.length cp), (12, .int .i64 (l.length : Int)), (13, .int .i64 (i : Int)), (14, .bool false)] (by simp [h0, h1, h2, h11, h12, h13]) hds ?_
    clear hK9 h0 h1 h2 h11 h12 h13 hds; intro s hs hds
    obtain ⟨h0, h1, h2, h11, h12, h13, h14⟩ := facts7 hs; clear hs
    refine at_seq rfl fun K10 hK10 => ?_
    refine at_false 14 rfl h14 ?_
    refine at_exit 0 rfl ?_
    simp only [inBlockE, thenE]
    refine end_none rfl hds ?_
    have hil : i = l.length := by omega
    rw [hil, List.take_length] at hJi
    exact hJi
end Go.Proofs.Ytiejaopidkghdaa
