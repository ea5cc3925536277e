/- How many went to one. -/
import Derived.Test.YtiejaopidkghdaaFh
namespace Go.Proofs.Ytiejaopidkghdaa
set_option linter.unusedSimpArgs false
set_option linter.unusedVariables false
open Go.RowKit Go.Lf

theorem call22 (args : Array Value) (w : World) : (callFunc 22 args).run Try.prog w = .ok (.enter 22 args) w := by
  simp [go_sem]
noncomputable def body15 : Code := Try.f15.body.getD .skip

/-- What holds between two rounds of Open. -/
structure CountJ (w0 : World) (B fb mb : Nat) (N : Int) (lv : Value) (l q : List Rq) (L d bo b2 b3 : Nat) (fv : Value) (rec : Loop) (k : Nat) (w : World) : Prop where
  rc : w.heap[L]? = some (.loop rec)
  df : w.heap[d]? = some (.deferred (some []))
  fl : Fl w fb mb N lv l
  c2 : w.cell? ⟨b2, 0, none⟩ = some (.pointer (some ⟨fb, 0, none⟩))
  c3 : w.cell? ⟨b3, 0, none⟩ = some fv
  out : Blk w bo #[.int .i64 (k : Int)] 3
  nw : New w0 w

theorem CountJ.frm {w0 w w' : World} {B fb mb : Nat} {N : Int} {lv : Value} {l q : List Rq} {L d bo b2 b3 : Nat} {fv : Value} {rec : Loop} {k : Nat} (h : CountJ w0 B fb mb N lv l q L d bo b2 b3 fv rec k w) (hf : New w w') :
    CountJ w0 B fb mb N lv l q L d bo b2 b3 fv rec k w' := by
  have h1 := h.out
  refine ⟨(hf.block L (Array.getElem?_eq_some_iff.1 h.rc).1 (fun h => h)).trans h.rc, (hf.block d (Array.getElem?_eq_some_iff.1 h.df).1 (fun h => h)).trans h.df, h.fl.new hf, ?_, ?_, h1.frm hf (fun h => h), New.trans h.nw hf⟩
  · rw [World.cell?_of_block (hf.block b2 (World.block_lt_of_cell? w _ h.c2) (fun h => h))]; exact h.c2
  · rw [World.cell?_of_block (hf.block b3 (World.block_lt_of_cell? w _ h.c3) (fun h => h))]; exact h.c3

theorem count_any (fb : Nat) (N : Int) (l : List Rq) (S : Nat → Prop) (to : Int) (w : World) (hF : Flight w fb N l S) (hl : l.length ≤ 65536) :
    CallsV Try.prog 15 #[.pointer (some ⟨fb, 0, none⟩), .int .i64 to] w fun v w' => v = .int .i64 ((l.filter (askHas to)).length : Int) ∧ New w w' := by
  obtain ⟨⟨mb, lv, F, hfl, hm, hok, s1, s2, s3⟩, hlt⟩ := hF
  refine calls_at body15 Try.func15 rfl 13 rfl (by simp) fun s hs hds => ?_
  have h0 := hs 0 _ rfl
  have h1 := hs 1 _ rfl
  clear hs
  refine at_seq rfl fun K1 hK1 => ?_
  (conv => arg 4; whnf)
  refine fw_region_lit rfl ?_
  simp [go_sem, opsF, opF, upF, Region.wanted, Fr.ev, Fr.put, thenE, inBlockE, Oper.semAt, yieldF, h0, h1]
  have hA := Frm.alloc (fun _ => False) w (.cells #[.int .i64 0] 3)
  have hbo := Blk.new w #[.int .i64 0] 3
  have hflA := hfl.new hA
  refine on_kf hK1 [(0, .pointer (some ⟨fb, 0, none⟩)), (1, .int .i64 to), (4, .pointer (some ⟨w.heap.size, 0, none⟩))] (by simp [h0, h1]) hds ?_
  clear hK1 h0 h1 hds; intro s hs hds
  obtain ⟨h0, h1, h4⟩ := facts3 hs; clear hs
  refine at_seq rfl fun K2 hK2 => ?_
  refine at_seq rfl fun K3 hK3 => ?_
  (conv => arg 4; whnf)
  refine fw_region_lit rfl ?_
  simp [go_sem, opsF, opF, upF, Region.wanted, Fr.ev, Fr.put, thenE, inBlockE, Oper.semAt, yieldF, h0, h1, h4]
  refine (some_any _ _ _ ⟨_, rfl⟩ ⟨_, _, rfl⟩).on ?_
  rintro v wB ⟨b2, b3, rfl, hB, k2, k3, g2, g3⟩
  refine on_kf hK3 [(0, .pointer (some ⟨fb, 0, none⟩)), (1, .int .i64 to), (4, .pointer (some ⟨w.heap.size, 0, none⟩)), (8, .func (.func 23) #[] #[.pointer (some ⟨b2, 0, none⟩), .pointer (some ⟨b3, 0, none⟩)])] (by simp [h0, h1, h4]) hds ?_
  clear hK3 h0 h1 h4 hds; intro s hs hds
  obtain ⟨h0, h1, h4, h8⟩ := facts4 hs; clear hs
  refine at_block 0 rfl ?_
  refine at_range (g := .tmp 8) (ps := #[9]) rfl (gf := 23) (cap := #[.pointer (some ⟨b2, 0, none⟩), .pointer (some ⟨b3, 0, none⟩)]) h8 call23 ?_
  intro fn T wC hT hTg hC hsz hdf hrc
  obtain ⟨q, hq⟩ : ∃ q, q = l.filter (askHas to) := ⟨_, rfl⟩
  have hql : q.length ≤ 65536 := by rw [hq]; exact Nat.le_trans (List.length_filter_le _ _) hl
  have hD := New.trans (New.trans hA hB) hC
  have hbo' := (hbo.frm hB (fun h => h)).frm hC (fun h => h)
  have hJ0 : CountJ w (wB.heap.size + 2) fb mb N lv l q (wB.heap.size + 1) wB.heap.size w.heap.size b2 b3 (.func (.func 22) #[.int .i64 to] #[]) (recOf fn T #[9] (sub body15 [0, 0, 1, 0, 1]) (sub body15 [1, 0, 1, 0, 1]) wB.heap.size) 0 wC :=
    ⟨hrc, hdf, (hflA.new hB).new hC, by rw [World.cell?_of_block (hC.block b2 (World.block_lt_of_cell? wB _ k2) (fun h => h))]; exact k2, by rw [World.cell?_of_block (hC.block b3 (World.block_lt_of_cell? wB _ k3) (fun h => h))]; exact k3,
      hbo', hD⟩
  have hBL : w.heap.size < wB.heap.size := by have := hB.size; simp at this; omega
  have l2 := World.block_lt_of_cell? wB _ k2
  have l3 := World.block_lt_of_cell? wB _ k3
  have lf := hfl.blk.lt
  have ll := hfl.row.lt
  simp only [World.size_alloc] at g2 g3 l2 l3
  refine (iter_any fb mb N lv l (askHas to) 22 #[.int .i64 to] (wB.heap.size + 1) b2 b3 (CountJ w (wB.heap.size + 2) fb mb N lv l q (wB.heap.size + 1) wB.heap.size w.heap.size b2 b3 (.func (.func 22) #[.int .i64 to] #[]) (recOf fn T #[9] (sub body15 [0, 0, 1, 0, 1]) (sub body15 [1, 0, 1, 0, 1]) wB.heap.size)) wC
    call22 (fun r w1 => has_any to r w1) (fun k w w' h hf => h.frm hf) (fun k w h => ⟨h.fl, h.c2, h.c3⟩) ?_ hJ0).on ?_
  · rw [← hq]
    clear hJ0 hbo' hD hdf hrc hsz hflA hfl hbo hK2 k2 k3
    intro k r w1 hkr hJ
    refine yieldV_of hJ.rc rfl rfl hT s.t hTg (by simp [recOf]) ?_
    have hJ1 := hJ
    obtain ⟨hrc1, hdf1, hfl1, kc2, kc3, hb1, hnw1⟩ := hJ
    dsimp only [recOf]
    have hk : k < q.length := (List.getElem?_eq_some_iff.1 hkr).1
    refine at_skip rfl ?_
    refine ⟨rfl, _, hrc1, rfl, ?_⟩
    refine reframe [(4, .pointer (some ⟨w.heap.size, 0, none⟩))] (by simp [h4]) rfl ?_
    intro s hs hds
    have h4 : s.t 4 = .pointer (some ⟨w.heap.size, 0, none⟩) := hs (4, _) (List.mem_singleton_self _); clear hs
    have hLx : wB.heap.size + 1 < w1.heap.size := (Array.getElem?_eq_some_iff.1 hrc1).1
    have hP := Frm.putObj (S := fun b => b = wB.heap.size + 1) w1 (wB.heap.size + 1) (.loop { (recOf fn T #[9] (sub body15 [0, 0, 1, 0, 1]) (sub body15 [1, 0, 1, 0, 1]) wB.heap.size) with state := .busy }) rfl
    have hrc2 := World.putObj_heap_same (w := w1) (r := wB.heap.size + 1) (o := .loop { (recOf fn T #[9] (sub body15 [0, 0, 1, 0, 1]) (sub body15 [1, 0, 1, 0, 1]) wB.heap.size) with state := .busy }) hLx
    have hb2 := hb1.frm hP (by omega)
    dsimp only [recOf] at *
    generalize w1.putObj (wB.heap.size + 1) (.loop { state := .busy, pending := none, fn := fn, tmps := T, params := #[9], assign := (sub body15 [0, 0, 1, 0, 1]), body := (sub body15 [1, 0, 1, 0, 1]), defers := wB.heap.size }) = w2 at *
    have q0 := hb2.cell 0
    have qf := hb2.frozen 0
    have d1 : IntKind.i64.wrap ((k : Int) + 1) = (k : Int) + 1 := IntWalk.i64_in _ (by omega)
    refine at_block 1 rfl ?_
    (conv => arg 4; whnf)
    refine fw_region_lit rfl ?_
    simp [go_sem, opsF, opF, upF, Region.wanted, Fr.ev, Fr.put, thenE, inBlockE, Oper.semAt, yieldF, h4, q0, qf, d1]
    have hset := Frm.setCell (S := fun b => b = w.heap.size) w2 ⟨w.heap.size, 0, none⟩ (.int .i64 ((k : Int) + 1)) rfl
    have hb4 := hb2.set 0 (.int .i64 ((k : Int) + 1))
    have hput := Frm.putObj (S := fun b => b = wB.heap.size + 1) (w2.setCell ⟨w.heap.size, 0, none⟩ (.int .i64 ((k : Int) + 1))) (wB.heap.size + 1) (.loop (recOf fn T #[9] (sub body15 [0, 0, 1, 0, 1]) (sub body15 [1, 0, 1, 0, 1]) wB.heap.size)) rfl
    have hrc3 : (w2.setCell ⟨w.heap.size, 0, none⟩ (.int .i64 ((k : Int) + 1))).heap[wB.heap.size + 1]? = w2.heap[wB.heap.size + 1]? := by
      rw [hset.block _ (by have := hP.size; omega) (by omega)]
    have hlt3 : wB.heap.size + 1 < (w2.setCell ⟨w.heap.size, 0, none⟩ (.int .i64 ((k : Int) + 1))).heap.size := by have := hP.size; have := hset.size; omega
    have hS : Frm (fun b => b = wB.heap.size + 1 ∨ b = w.heap.size) w1 ((w2.setCell ⟨w.heap.size, 0, none⟩ (.int .i64 ((k : Int) + 1))).putObj (wB.heap.size + 1) (.loop (recOf fn T #[9] (sub body15 [0, 0, 1, 0, 1]) (sub body15 [1, 0, 1, 0, 1]) wB.heap.size))) :=
      ((hP.mono (fun _ _ h => .inl h)).trans hset (fun _ _ h => .inr h)).trans hput (fun _ _ h => .inl h)
    refine ⟨_, hrc3.trans hrc2, rfl, World.putObj_heap_same hlt3, ?_, ?_, ?_, ?_, ?_, ?_⟩
    · exact (hS.block _ (by omega) (by omega)).trans hdf1
    · exact hfl1.frm hS (by omega) (fun b hb => by have := ll b hb; omega)
    · rw [World.cell?_of_block (hS.block b2 (World.block_lt_of_cell? w1 _ kc2) (by omega))]; exact kc2
    · rw [World.cell?_of_block (hS.block b3 (World.block_lt_of_cell? w1 _ kc3) (by omega))]; exact kc3
    · exact hb4.frm hput (by omega)
    · exact Frm.trans hnw1 hS (fun b hb h => by omega)
  · rintro v wE hJ
    rw [← hq] at hJ
    obtain ⟨hrc1, hdf1, hfl1, kc2, kc3, hb1, hnw1⟩ := hJ
    refine ⟨_, hrc1, by simp [recOf], ?_⟩
    dsimp only [recOf]
    simp only [inBlockE, thenE]
    have hp1 := Frm.putObj (S := fun b => b = wB.heap.size + 1) wE (wB.heap.size + 1) (.loop { (recOf fn T #[9] (sub body15 [0, 0, 1, 0, 1]) (sub body15 [1, 0, 1, 0, 1]) wB.heap.size) with state := .exhausted }) rfl
    dsimp only [recOf] at hp1
    generalize wE.putObj (wB.heap.size + 1) (.loop { state := .exhausted, pending := none, fn := fn, tmps := T, params := #[9], assign := (sub body15 [0, 0, 1, 0, 1]), body := (sub body15 [1, 0, 1, 0, 1]), defers := wB.heap.size }) = wF at *
    have hb2 := hb1.frm hp1 (by omega)
    have hdf2 := (hp1.block wB.heap.size (Array.getElem?_eq_some_iff.1 hdf1).1 (by omega)).trans hdf1
    have y0 := hb2.cell 0
    have yf := hb2.frozen 0
    refine on_kf hK2 [(0, .pointer (some ⟨fb, 0, none⟩)), (4, .pointer (some ⟨w.heap.size, 0, none⟩)), (8, .func (.func 23) #[] #[.pointer (some ⟨b2, 0, none⟩), .pointer (some ⟨b3, 0, none⟩)])] (by simp [h0, h4, h8]) (D := [{ target := .collected wB.heap.size, args := #[] }]) (by simp [hds]) ?_
    clear hK2 h0 h4 h8 hds; intro s hs hds
    obtain ⟨h0, h4, h8⟩ := facts3 hs; clear hs
    refine at_seq rfl fun K4 hK4 => ?_
    (conv => arg 4; whnf)
    refine fw_region_lit rfl ?_
    simp [go_sem, opsF, opF, upF, Region.wanted, Fr.ev, Fr.put, thenE, inBlockE, Oper.semAt, yieldF, h0, h4, h8, y0, yf]
    refine on_kf hK4 [(0, .pointer (some ⟨fb, 0, none⟩)), (4, .pointer (some ⟨w.heap.size, 0, none⟩)), (8, .func (.func 23) #[] #[.pointer (some ⟨b2, 0, none⟩), .pointer (some ⟨b3, 0, none⟩)])] (by simp [h0, h4, h8]) hds ?_
    clear hK4 h0 h4 h8 hds; intro s hs hds
    obtain ⟨h0, h4, h8⟩ := facts3 hs; clear hs
    refine at_ret rfl ?_
    have hset := Frm.setCell (S := fun b => b = w.heap.size) wF ⟨w.heap.size, 0, none⟩ (.int .i64 (q.length : Int)) rfl
    have hb3 := hb2.set 0 (.int .i64 (q.length : Int))
    have hdf3 := (hset.block wB.heap.size (Array.getElem?_eq_some_iff.1 hdf2).1 (by omega)).trans hdf2
    have hp2 := Frm.putObj (S := fun b => b = wB.heap.size) (wF.setCell ⟨w.heap.size, 0, none⟩ (.int .i64 (q.length : Int))) wB.heap.size (.deferred none) rfl
    have hb4 := hb3.frm hp2 (by omega)
    have z0 := hb4.cell 0
    show leaveF _ _ _ _ s.ds _
    rw [hds]
    refine ⟨_, rfl, hdf3, .int .i64 (q.length : Int), ?_, ?_, ?_⟩
    · simp [resF, Try.results15, h4, go_sem, z0]
    · rw [← hq]
    · exact ((Frm.trans hnw1 hp1 (fun b hb h => by omega)).trans hset (fun b hb h => by omega)).trans hp2 (fun b hb h => by omega)
end Go.Proofs.Ytiejaopidkghdaa
