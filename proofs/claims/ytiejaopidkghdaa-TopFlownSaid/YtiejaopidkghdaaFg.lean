/- All that was sent. -/
import Derived.Test.YtiejaopidkghdaaFf
namespace Go.Proofs.Ytiejaopidkghdaa
set_option linter.unusedSimpArgs false
set_option linter.unusedVariables false
open Go.RowKit Go.Lf

theorem call20 (args : Array Value) (w : World) : (callFunc 20 args).run Try.prog w = .ok (.enter 20 args) w := by
  simp [go_sem]

theorem call23 (args : Array Value) (w : World) : (callFunc 23 args).run Try.prog w = .ok (.enter 23 args) w := by
  simp [go_sem]

noncomputable def body11 : Code := Try.f11.body.getD .skip

/-- What holds between two rounds of Sent. -/
structure SentJ (w0 : World) (B fb mb : Nat) (N : Int) (lv : Value) (l : List Rq) (L d bo b2 b3 : Nat) (fv : Value) (rec : Loop) (k : Nat) (w : World) : Prop where
  rc : w.heap[L]? = some (.loop rec)
  df : w.heap[d]? = some (.deferred (some []))
  fl : Fl w fb mb N lv l
  c2 : w.cell? ⟨b2, 0, none⟩ = some (.pointer (some ⟨fb, 0, none⟩))
  c3 : w.cell? ⟨b3, 0, none⟩ = some fv
  out : ∃ v, Blk w bo #[v] 27 ∧ Row w 31 5 v k (cellsOf (l.take k)) ∧ ∀ b, v.ownBlock = some b → B ≤ b
  nw : New w0 w

theorem SentJ.frm {w0 w w' : World} {B fb mb : Nat} {N : Int} {lv : Value} {l : List Rq} {L d bo b2 b3 : Nat} {fv : Value} {rec : Loop} {k : Nat} (h : SentJ w0 B fb mb N lv l L d bo b2 b3 fv rec k w) (hf : New w w') :
    SentJ w0 B fb mb N lv l L d bo b2 b3 fv rec k w' := by
  obtain ⟨v, h1, h2, h3⟩ := h.out
  refine ⟨(hf.block L (Array.getElem?_eq_some_iff.1 h.rc).1 (fun h => h)).trans h.rc, (hf.block d (Array.getElem?_eq_some_iff.1 h.df).1 (fun h => h)).trans h.df, h.fl.new hf, ?_, ?_, ⟨v, h1.frm hf (fun h => h), h2.frm hf (fun _ _ h => h), h3⟩, New.trans h.nw hf⟩
  · rw [World.cell?_of_block (hf.block b2 (World.block_lt_of_cell? w _ h.c2) (fun h => h))]; exact h.c2
  · rw [World.cell?_of_block (hf.block b3 (World.block_lt_of_cell? w _ h.c3) (fun h => h))]; exact h.c3

theorem sent_any (fb : Nat) (N : Int) (l : List Rq) (S : Nat → Prop) (w : World) (hF : Flight w fb N l S) (hl : l.length ≤ 65536) :
    CallsV Try.prog 11 #[.pointer (some ⟨fb, 0, none⟩)] w fun v w' => Row w' 31 5 v l.length (cellsOf l) ∧ New w w' ∧ ∀ k, v.ownBlock = some k → w.heap.size ≤ k := by
  obtain ⟨⟨mb, lv, F, hfl, hm, hok, s1, s2, s3⟩, hlt⟩ := hF
  refine calls_at body11 Try.func11 rfl 13 rfl (by simp) fun s hs hds => ?_
  have h0 := hs 0 _ rfl
  clear hs
  refine at_seq rfl fun K1 hK1 => ?_
  (conv => arg 4; whnf)
  refine fw_region_lit rfl ?_
  simp [go_sem, opsF, opF, upF, Region.wanted, Fr.ev, Fr.put, thenE, inBlockE, Oper.semAt, yieldF, h0]
  have hA := Frm.alloc (fun _ => False) w (.cells #[.slice none 0 0] 27)
  have hbo := Blk.new w #[.slice none 0 0] 27
  have hflA := hfl.new hA
  refine on_kf hK1 [(0, .pointer (some ⟨fb, 0, none⟩)), (2, .pointer (some ⟨w.heap.size, 0, none⟩))] (by simp [h0]) hds ?_
  clear hK1 h0 hds; intro s hs hds
  obtain ⟨h0, h2⟩ := facts2 hs; clear hs
  refine at_seq rfl fun K2 hK2 => ?_
  refine at_seq rfl fun K3 hK3 => ?_
  (conv => arg 4; whnf)
  refine fw_region_lit rfl ?_
  simp [go_sem, opsF, opF, upF, Region.wanted, Fr.ev, Fr.put, thenE, inBlockE, Oper.semAt, yieldF, h0, h2]
  refine (some_any _ _ _ ⟨_, rfl⟩ ⟨_, _, rfl⟩).on ?_
  rintro v wB ⟨b2, b3, rfl, hB, k2, k3, g2, g3⟩
  refine on_kf hK3 [(0, .pointer (some ⟨fb, 0, none⟩)), (2, .pointer (some ⟨w.heap.size, 0, none⟩)), (6, .func (.func 23) #[] #[.pointer (some ⟨b2, 0, none⟩), .pointer (some ⟨b3, 0, none⟩)])] (by simp [h0, h2]) hds ?_
  clear hK3 h0 h2 hds; intro s hs hds
  obtain ⟨h0, h2, h6⟩ := facts3 hs; clear hs
  refine at_block 0 rfl ?_
  refine at_range (g := .tmp 6) (ps := #[7]) rfl (gf := 23) (cap := #[.pointer (some ⟨b2, 0, none⟩), .pointer (some ⟨b3, 0, none⟩)]) h6 call23 ?_
  intro fn T wC hT hTg hC hsz hdf hrc
  have hD := New.trans (New.trans hA hB) hC
  have hbo' := (hbo.frm hB (fun h => h)).frm hC (fun h => h)
  have hJ0 : SentJ w (wB.heap.size + 2) fb mb N lv l (wB.heap.size + 1) wB.heap.size w.heap.size b2 b3 (.func (.func 20) #[.int .i64 (-1)] #[]) (recOf fn T #[7] (sub body11 [0, 0, 1, 0, 1]) (sub body11 [1, 0, 1, 0, 1]) wB.heap.size) 0 wC :=
    ⟨hrc, hdf, (hflA.new hB).new hC, by rw [World.cell?_of_block (hC.block b2 (World.block_lt_of_cell? wB _ k2) (fun h => h))]; exact k2, by rw [World.cell?_of_block (hC.block b3 (World.block_lt_of_cell? wB _ k3) (fun h => h))]; exact k3,
      ⟨_, hbo', World.ownsRow_nil _ _ _ _, fun _ h => by cases h⟩, hD⟩
  have hflt : l.filter (askAll (-1)) = l := List.filter_eq_self.2 (fun _ _ => rfl)
  have hBL : w.heap.size < wB.heap.size := by have := hB.size; simp at this; omega
  have l2 := World.block_lt_of_cell? wB _ k2
  have l3 := World.block_lt_of_cell? wB _ k3
  have lf := hfl.blk.lt
  have ll := hfl.row.lt
  simp only [World.size_alloc] at g2 g3 l2 l3
  refine (iter_any fb mb N lv l (askAll (-1)) 20 #[.int .i64 (-1)] (wB.heap.size + 1) b2 b3 (SentJ w (wB.heap.size + 2) fb mb N lv l (wB.heap.size + 1) wB.heap.size w.heap.size b2 b3 (.func (.func 20) #[.int .i64 (-1)] #[]) (recOf fn T #[7] (sub body11 [0, 0, 1, 0, 1]) (sub body11 [1, 0, 1, 0, 1]) wB.heap.size)) wC
    call20 (fun r w1 => all_any (-1) r w1) (fun k w w' h hf => h.frm hf) (fun k w h => ⟨h.fl, h.c2, h.c3⟩) ?_ hJ0).on ?_
  · rw [hflt]
    clear hJ0 hbo' hD hdf hrc hsz hflA hfl hbo hK2 k2 k3
    intro k r w1 hkr hJ
    refine yieldV_of hJ.rc rfl rfl hT s.t hTg (by simp [recOf]) ?_
    have hJ1 := hJ
    obtain ⟨hrc1, hdf1, hfl1, kc2, kc3, ⟨v, hb1, hrow1, hown1⟩, hnw1⟩ := hJ
    dsimp only [recOf]
    have hk : k < l.length := (List.getElem?_eq_some_iff.1 hkr).1
    unfold Rq.agg
    refine reframe [(2, .pointer (some ⟨w.heap.size, 0, none⟩)), (7, .agg #[.int .i64 r.id, .int .i64 r.to, .int .i64 r.h, .int .i64 r.tm, .bool r.op])] (by simp [h2]) rfl ?_
    intro s hs hds
    obtain ⟨h2, h7⟩ := facts2 hs; clear hs
    have hLx : wB.heap.size + 1 < w1.heap.size := (Array.getElem?_eq_some_iff.1 hrc1).1
    have hE1 := Frm.alloc (fun _ => False) w1 (.cells #[.int .i64 r.id, .int .i64 r.to, .int .i64 r.h, .int .i64 r.tm, .bool r.op] 31)
    have hx := Blk.new w1 #[.int .i64 r.id, .int .i64 r.to, .int .i64 r.h, .int .i64 r.tm, .bool r.op] 31
    (conv => arg 4; whnf)
    refine fw_region_lit rfl ?_
    simp [go_sem, opsF, opF, upF, Region.wanted, Fr.ev, Fr.put, thenE, inBlockE, Oper.semAt, yieldF, h2, h7]
    refine ⟨rfl, _, (hE1.block _ hLx (fun h => h)).trans hrc1, rfl, ?_⟩
    refine reframe [(2, .pointer (some ⟨w.heap.size, 0, none⟩)), (3, .pointer (some ⟨w1.heap.size, 0, none⟩)), (7, .agg #[.int .i64 r.id, .int .i64 r.to, .int .i64 r.h, .int .i64 r.tm, .bool r.op])] (by simp [h2, h7]) hds ?_
    intro s hs hds
    obtain ⟨h2, h3, h7⟩ := facts3 hs; clear hs
    have hP := Frm.putObj (S := fun b => b = wB.heap.size + 1) (w1.alloc (.cells #[.int .i64 r.id, .int .i64 r.to, .int .i64 r.h, .int .i64 r.tm, .bool r.op] 31)) (wB.heap.size + 1) (.loop { (recOf fn T #[7] (sub body11 [0, 0, 1, 0, 1]) (sub body11 [1, 0, 1, 0, 1]) wB.heap.size) with state := .busy }) rfl
    have hvL : ∀ b, v.ownBlock = some b → b ≠ wB.heap.size + 1 := by
      intro b hb e
      subst e
      obtain ⟨cur, hcur⟩ := hrow1.obj hb
      rw [hrc1] at hcur
      cases hcur
    have hvbo : ∀ b, v.ownBlock = some b → b ≠ w.heap.size := by
      intro b hb e
      subst e
      obtain ⟨cur, hcur⟩ := hrow1.obj hb
      have hb1' : w1.heap[w.heap.size]? = _ := hb1
      rw [hb1'] at hcur
      cases hcur
    have hrc2 := World.putObj_heap_same (w := w1.alloc (.cells #[.int .i64 r.id, .int .i64 r.to, .int .i64 r.h, .int .i64 r.tm, .bool r.op] 31)) (r := wB.heap.size + 1) (o := .loop { (recOf fn T #[7] (sub body11 [0, 0, 1, 0, 1]) (sub body11 [1, 0, 1, 0, 1]) wB.heap.size) with state := .busy }) (by simp; omega)
    have hx2 := hx.frm hP (by omega)
    have hb2 := (hb1.frm hE1 (fun h => h)).frm hP (by omega)
    have hrow2 := (hrow1.frm hE1 (fun _ _ h => h)).frm hP hvL
    have hw2 : Frm (fun b => b = wB.heap.size + 1) w1 _ := Frm.trans (hE1.mono (fun _ _ h => h.elim)) hP (fun _ _ h => h)
    have hsz2 := hP.size
    simp only [World.size_alloc] at hsz2
    dsimp only [recOf] at *
    generalize (w1.alloc (.cells #[.int .i64 r.id, .int .i64 r.to, .int .i64 r.h, .int .i64 r.tm, .bool r.op] 31)).putObj (wB.heap.size + 1) (.loop { state := .busy, pending := none, fn := fn, tmps := T, params := #[7], assign := (sub body11 [0, 0, 1, 0, 1]), body := (sub body11 [1, 0, 1, 0, 1]), defers := wB.heap.size }) = w2 at *
    obtain ⟨ad, cp, rfl⟩ : ∃ ad cp, v = .slice ad k cp := by
      rcases hrow1.val with ⟨h, h', _⟩ | ⟨g, cap, h, _⟩
      · exact ⟨none, 0, by rw [h, h']⟩
      · exact ⟨_, cap, h⟩
    have q0 := hb2.cell 0
    have x0 := hx2.cell 0
    have x1 := hx2.cell 1
    have x2 := hx2.cell 2
    have x3 := hx2.cell 3
    have x4 := hx2.cell 4
    have hA3 := Frm.alloc (fun _ => False) w2 (.cells #[.int .i64 r.id, .int .i64 r.to, .int .i64 r.h, .int .i64 r.tm, .bool r.op] 31)
    obtain ⟨v', w3, hap, hrow3, hfr3, _, hown3⟩ := (hrow2.frm hA3 (fun _ _ h => h)).append (P := Try.prog) (t := 27) (ty := 27) Try.underlying27 info31 rfl (by decide) ⟨w2.heap.size, 0, none⟩ 1 1 _ rfl
      (new_cells w2 [.int .i64 r.id, .int .i64 r.to, .int .i64 r.h, .int .i64 r.tm, .bool r.op] 31) (by simp [Value.oneCell']) (by unfold maxLen; omega) (by omega)
    obtain ⟨g', cap', rfl⟩ : ∃ g' cap', v' = .slice (some ⟨g', 0, none⟩) (k + 1) cap' := by
      rcases hrow3.val with ⟨_, h, _⟩ | ⟨g, cap, h, _⟩
      · omega
      · exact ⟨g, cap, h⟩
    have hb3 := (hb2.frm hA3 (fun h => h)).frm hfr3 (fun h => hvbo _ h rfl)
    have y0 := hb3.cell 0
    have yf := hb3.frozen 0
    refine at_block 1 rfl ?_
    (conv => arg 4; whnf)
    refine fw_region_lit rfl ?_
    refine ops_take 3 fun KO hKO => ?_
    simp [go_sem, opsF, opF, upF, Region.wanted, Fr.ev, Fr.put, thenE, inBlockE, Oper.semAt, yieldF, h2, h3, h7, q0, x0, x1, x2, x3, x4]
    refine hKO _ _ ?_
    clear hKO
    refine ops_append rfl rfl rfl (v := .slice ad k cp) (u := .slice (some ⟨w2.heap.size, 0, none⟩) 1 1) (by simp [Fr.ev]) (by simp [Fr.ev]) hap ?_
    simp [go_sem, opsF, opF, upF, Region.wanted, Fr.ev, Fr.put, thenE, inBlockE, Oper.semAt, yieldF, h2, h3, h7, y0, yf]
    have hset := Frm.setCell (S := fun b => b = w.heap.size) w3 ⟨w.heap.size, 0, none⟩ (.slice (some ⟨g', 0, none⟩) (k + 1) cap') rfl
    have hb4 := hb3.set 0 (.slice (some ⟨g', 0, none⟩) (k + 1) cap')
    have hv' : ∀ b, (Value.slice (some ⟨g', 0, none⟩) (k + 1) cap').ownBlock = some b → wB.heap.size + 2 ≤ b := by
      intro b hb
      rcases hown3 b hb with h | h
      · exact hown1 b h
      · have := h.1; simp only [World.size_alloc] at this; omega
    have hrow4 := hrow3.frm hset (fun b hb => by have := hv' b hb; omega)
    have hput := Frm.putObj (S := fun b => b = wB.heap.size + 1) (w3.setCell ⟨w.heap.size, 0, none⟩ (.slice (some ⟨g', 0, none⟩) (k + 1) cap')) (wB.heap.size + 1) (.loop (recOf fn T #[7] (sub body11 [0, 0, 1, 0, 1]) (sub body11 [1, 0, 1, 0, 1]) wB.heap.size)) rfl
    have hrc3 : (w3.setCell ⟨w.heap.size, 0, none⟩ (.slice (some ⟨g', 0, none⟩) (k + 1) cap')).heap[wB.heap.size + 1]? = w2.heap[wB.heap.size + 1]? := by
      rw [hset.block _ (by have := hA3.size; have := hfr3.size; omega) (by omega), hfr3.block _ (by have := hA3.size; omega) (fun h => hvL _ h rfl), hA3.block _ (by omega) (fun h => h)]
    have hlt3 : wB.heap.size + 1 < (w3.setCell ⟨w.heap.size, 0, none⟩ (.slice (some ⟨g', 0, none⟩) (k + 1) cap')).heap.size := by have := hA3.size; have := hfr3.size; have := hset.size; omega
    have hS : Frm (fun b => b = wB.heap.size + 1 ∨ wB.heap.size + 2 ≤ b ∨ b = w.heap.size) w1 ((w3.setCell ⟨w.heap.size, 0, none⟩ (.slice (some ⟨g', 0, none⟩) (k + 1) cap')).putObj (wB.heap.size + 1) (.loop (recOf fn T #[7] (sub body11 [0, 0, 1, 0, 1]) (sub body11 [1, 0, 1, 0, 1]) wB.heap.size))) :=
      ((((hw2.mono (fun _ _ h => .inl h)).trans hA3 (fun _ _ h => h.elim)).trans hfr3 (fun b _ h => .inr (.inl (hown1 b h)))).trans hset (fun _ _ h => .inr (.inr h))).trans hput (fun _ _ h => .inl h)
    refine ⟨_, hrc3.trans hrc2, rfl, World.putObj_heap_same hlt3, ?_, ?_, ?_, ?_, ⟨_, hb4.frm hput (by omega), ?_, hv'⟩, ?_⟩
    · exact (hS.block _ (by omega) (by omega)).trans hdf1
    · exact hfl1.frm hS (by omega) (fun b hb => by have := ll b hb; omega)
    · rw [World.cell?_of_block (hS.block b2 (World.block_lt_of_cell? w1 _ kc2) (by omega))]; exact kc2
    · rw [World.cell?_of_block (hS.block b3 (World.block_lt_of_cell? w1 _ kc3) (by omega))]; exact kc3
    · have hc : cellsOf (l.take (k + 1)) = cellsOf (l.take k) ++ [.int .i64 r.id, .int .i64 r.to, .int .i64 r.h, .int .i64 r.tm, .bool r.op] := by
        rw [List.take_add_one, hkr]
        simp [cellsOf, Rq.enc]
      rw [hc]
      exact hrow4.frm hput (fun b hb => by have := hv' b hb; omega)
    · exact Frm.trans hnw1 hS (fun b hb h => by omega)
  · rintro v wE hJ
    rw [hflt] at hJ
    obtain ⟨hrc1, hdf1, hfl1, kc2, kc3, ⟨v, hb1, hrow1, hown1⟩, hnw1⟩ := hJ
    refine ⟨_, hrc1, by simp [recOf], ?_⟩
    dsimp only [recOf]
    simp only [inBlockE, thenE]
    have hp1 := Frm.putObj (S := fun b => b = wB.heap.size + 1) wE (wB.heap.size + 1) (.loop { (recOf fn T #[7] (sub body11 [0, 0, 1, 0, 1]) (sub body11 [1, 0, 1, 0, 1]) wB.heap.size) with state := .exhausted }) rfl
    dsimp only [recOf] at hp1
    generalize wE.putObj (wB.heap.size + 1) (.loop { state := .exhausted, pending := none, fn := fn, tmps := T, params := #[7], assign := (sub body11 [0, 0, 1, 0, 1]), body := (sub body11 [1, 0, 1, 0, 1]), defers := wB.heap.size }) = wF at *
    have hb2 := hb1.frm hp1 (by omega)
    have hrow2 := hrow1.frm hp1 (fun b hb => by have := hown1 b hb; omega)
    have hdf2 := (hp1.block wB.heap.size (Array.getElem?_eq_some_iff.1 hdf1).1 (by omega)).trans hdf1
    obtain ⟨ad, cp, rfl⟩ : ∃ ad cp, v = .slice ad l.length cp := by
      rcases hrow1.val with ⟨h, h', _⟩ | ⟨g, cap, h, _⟩
      · exact ⟨none, 0, by rw [h, h']⟩
      · exact ⟨_, cap, h⟩
    have y0 := hb2.cell 0
    have yf := hb2.frozen 0
    refine on_kf hK2 [(0, .pointer (some ⟨fb, 0, none⟩)), (2, .pointer (some ⟨w.heap.size, 0, none⟩)), (6, .func (.func 23) #[] #[.pointer (some ⟨b2, 0, none⟩), .pointer (some ⟨b3, 0, none⟩)])] (by simp [h0, h2, h6]) (D := [{ target := .collected wB.heap.size, args := #[] }]) (by simp [hds]) ?_
    clear hK2 h0 h2 h6 hds; intro s hs hds
    obtain ⟨h0, h2, h6⟩ := facts3 hs; clear hs
    refine at_seq rfl fun K4 hK4 => ?_
    (conv => arg 4; whnf)
    refine fw_region_lit rfl ?_
    simp [go_sem, opsF, opF, upF, Region.wanted, Fr.ev, Fr.put, thenE, inBlockE, Oper.semAt, yieldF, h0, h2, h6, y0, yf]
    refine on_kf hK4 [(0, .pointer (some ⟨fb, 0, none⟩)), (2, .pointer (some ⟨w.heap.size, 0, none⟩)), (6, .func (.func 23) #[] #[.pointer (some ⟨b2, 0, none⟩), .pointer (some ⟨b3, 0, none⟩)])] (by simp [h0, h2, h6]) hds ?_
    clear hK4 h0 h2 h6 hds; intro s hs hds
    obtain ⟨h0, h2, h6⟩ := facts3 hs; clear hs
    refine at_ret rfl ?_
    have hset := Frm.setCell (S := fun b => b = w.heap.size) wF ⟨w.heap.size, 0, none⟩ (.slice ad l.length cp) rfl
    have hb3 := hb2.set 0 (.slice ad l.length cp)
    have hrow3 := hrow2.frm hset (fun b hb => by have := hown1 b hb; omega)
    have hdf3 := (hset.block wB.heap.size (Array.getElem?_eq_some_iff.1 hdf2).1 (by omega)).trans hdf2
    have hp2 := Frm.putObj (S := fun b => b = wB.heap.size) (wF.setCell ⟨w.heap.size, 0, none⟩ (.slice ad l.length cp)) wB.heap.size (.deferred none) rfl
    have hb4 := hb3.frm hp2 (by omega)
    have hrow4 := hrow3.frm hp2 (fun b hb => by have := hown1 b hb; omega)
    have z0 := hb4.cell 0
    show leaveF _ _ _ _ s.ds _
    rw [hds]
    refine ⟨_, rfl, hdf3, .slice ad l.length cp, ?_, ?_, ?_, ?_⟩
    · simp [resF, Try.results11, h2, go_sem, z0]
    · simpa using hrow4
    · exact ((Frm.trans hnw1 hp1 (fun b hb h => by omega)).trans hset (fun b hb h => by omega)).trans hp2 (fun b hb h => by omega)
    · intro b hb
      have := hown1 b hb
      omega
end Go.Proofs.Ytiejaopidkghdaa
