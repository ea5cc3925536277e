/- What holds in memory while a plan is gone through; the tries' iterator. -/
import Derived.Test.YtiejaopidkghdacPg
import Derived.Test.YtiejaopidkghdacKk
namespace Go.Proofs.Ytiejaopidkghdac
set_option linter.unusedSimpArgs false
set_option linter.unusedVariables false
open Go.RowKit Go.Lf

structure PB where
  b6 : Nat
  b7 : Nat
  b10 : Nat
  b11 : Nat
  mb : Nat
  sb : Nat
  L : Nat
  d : Nat
  b1 : Nat
  b2 : Nat

/-- What nobody turns. -/
structure PF (w : World) (B : PB) (F : Value → Option Value) : Prop where
  c10 : Blk w B.b10 #[.pointer (some ⟨B.sb, 0, none⟩)] 24
  c11 : Blk w B.b11 #[.map (some B.mb)] 57
  k1 : Blk w B.b1 #[.pointer (some ⟨B.sb, 0, none⟩)] 24
  k2 : Blk w B.b2 #[.func (.func 25) #[] #[.pointer (some ⟨B.b11, 0, none⟩)]] 64
  mp : MapIs Try.prog 39 w B.mb F
  df : w.heap[B.d]? = some (.deferred (some []))

theorem PF.lt {w : World} {B : PB} {F : Value → Option Value} (h : PF w B F) : B.d < w.heap.size := (Array.getElem?_eq_some_iff.1 h.df).1
theorem PF.frm {S : Nat → Prop} {w w' : World} {B : PB} {F : Value → Option Value} (h : PF w B F) (hf : Frm S w w') (n10 : ¬ S B.b10) (n11 : ¬ S B.b11) (n1 : ¬ S B.b1) (n2 : ¬ S B.b2) (nm : ¬ S B.mb) (nd : ¬ S B.d) : PF w' B F :=
  ⟨h.c10.frm hf n10, h.c11.frm hf n11, h.k1.frm hf n1, h.k2.frm hf n2, h.mp.frm hf nm, (hf.block _ h.lt nd).trans h.df⟩
/-- A set of blocks that hold none of these. -/
theorem PF.off {S : Nat → Prop} {w w' : World} {B : PB} {F : Value → Option Value} (h : PF w B F) (hf : Frm S w w')
    (hn : ∀ b o, S b → w.heap[b]? = some o → (∀ c, o ≠ .cells c 24 (0, 0)) ∧ (∀ c, o ≠ .cells c 57 (0, 0)) ∧ (∀ c, o ≠ .cells c 64 (0, 0)) ∧ (∀ es ck, o ≠ .map es ck) ∧ (∀ x, o ≠ .deferred x)) : PF w' B F := by
  have hm := h.mp
  obtain ⟨es, ck, hmb, _⟩ := hm
  exact h.frm hf (fun hs => (hn _ _ hs h.c10).1 _ rfl) (fun hs => (hn _ _ hs h.c11).2.1 _ rfl) (fun hs => (hn _ _ hs h.k1).1 _ rfl) (fun hs => (hn _ _ hs h.k2).2.2.1 _ rfl) (fun hs => (hn _ _ hs hmb).2.2.2.1 _ _ rfl) (fun hs => (hn _ _ hs h.df).2.2.2.2 _ rfl)

structure PK (w0 w : World) (B : PB) (F : Value → Option Value) (rec : Loop) (low high base : Int) (l : List Int) (ts : List Tr) (qs : List Int) (ov av lv : Value) : Prop where
  pf : PF w B F
  lp : w.heap[B.L]? = some (.loop rec)
  c6 : Blk w B.b6 #[ov] 41
  ro : Row w 43 3 ov ts.length (trs ts)
  c7 : Blk w B.b7 #[av] 30
  ra : Row w 3 1 av qs.length (qs.map (Value.int .i64))
  si : SI w B.sb base low high lv l
  sep : ∀ k, av.ownBlock = some k → lv.ownBlock ≠ some k
  nw : New w0 w
  own : ∀ k, ov.ownBlock = some k ∨ av.ownBlock = some k ∨ lv.ownBlock = some k → w0.heap.size ≤ k
  g6 : w0.heap.size ≤ B.b6
  g7 : w0.heap.size ≤ B.b7
  gs : w0.heap.size ≤ B.sb
  gL : w0.heap.size ≤ B.L

section
variable {w0 w w' : World} {B : PB} {F : Value → Option Value} {rec : Loop} {low high base : Int} {l : List Int} {ts : List Tr} {qs : List Int} {ov av lv : Value}

theorem PK.new (h : PK w0 w B F rec low high base l ts qs ov av lv) (hn : New w w') : PK w0 w' B F rec low high base l ts qs ov av lv :=
  ⟨h.pf.frm hn (fun h => h) (fun h => h) (fun h => h) (fun h => h) (fun h => h) (fun h => h), (hn.block _ (Array.getElem?_eq_some_iff.1 h.lp).1 (fun h => h)).trans h.lp, h.c6.frm hn (fun h => h), h.ro.frm hn (fun _ _ h => h), h.c7.frm hn (fun h => h), h.ra.frm hn (fun _ _ h => h), h.si.new hn, h.sep, New.trans h.nw hn, h.own, h.g6, h.g7, h.gs, h.gL⟩

theorem PK.put (h : PK w0 w B F rec low high base l ts qs ov av lv) (rec' : Loop) : PK w0 (w.putObj B.L (.loop rec')) B F rec' low high base l ts qs ov av lv := by
  have hf := Frm.putObj (S := fun b => b = B.L) w B.L (.loop rec') rfl
  have nb : ∀ {b c T}, Blk w b c T → ¬ b = B.L := fun hb e => obj_ne hb h.lp (by simp) e
  have nr : ∀ {T z n v xs}, Row w T z v n xs → ∀ k, v.ownBlock = some k → ¬ k = B.L := fun hr k hk e => hr.not h.lp (by simp) (e ▸ hk)
  refine ⟨h.pf.off hf (fun b o hb ho => ?_), ?_, h.c6.frm hf (nb h.c6), h.ro.frm hf (nr h.ro), h.c7.frm hf (nb h.c7), h.ra.frm hf (nr h.ra), h.si.frm hf (nb h.si.blk) (nr h.si.row), h.sep, Frm.trans h.nw hf (fun b hb e => by subst e; exact absurd hb (by have := h.gL; omega)), h.own, h.g6, h.g7, h.gs, h.gL⟩
  · subst hb
    rw [h.lp] at ho
    cases ho
    simp
  · exact World.putObj_heap_same (Array.getElem?_eq_some_iff.1 h.lp).1

theorem PK.stack {base' : Int} {l' : List Int} {lv' : Value} (h : PK w0 w B F rec low high base l ts qs ov av lv) (hm : Mut w w' B.sb lv lv') (hs : SI w' B.sb base' low high lv' l') : PK w0 w' B F rec low high base' l' ts qs ov av lv' := by
  have hf := hm.frm
  refine ⟨h.pf.off hf (fun b o hb ho => ?_), ?_, h.c6.frm hf ?_, h.ro.frm hf ?_, h.c7.frm hf ?_, h.ra.frm hf ?_, hs, ?_, Frm.trans h.nw hf ?_, ?_, h.g6, h.g7, h.gs, h.gL⟩
  · rcases hb with rfl | hb
    · have := h.si.blk
      unfold Blk at this
      rw [this] at ho
      cases ho
      simp
    · obtain ⟨cur, hc⟩ := h.si.row.obj hb
      rw [hc] at ho
      cases ho
      simp
  · refine (hf.block _ (Array.getElem?_eq_some_iff.1 h.lp).1 ?_).trans h.lp
    rintro (e | e)
    · exact obj_ne h.lp h.si.blk (by simp) e
    · exact h.si.row.not h.lp (by simp) e
  · rintro (e | e)
    · exact h.c6.ne h.si.blk (by decide) e
    · exact h.si.row.notBlk h.c6 (by decide) e
  · rintro k hk (e | e)
    · subst e; exact h.ro.notBlk h.si.blk (by decide) hk
    · obtain ⟨c1, h1⟩ := h.ro.obj hk
      exact h.si.row.not h1 (by simp) e
  · rintro (e | e)
    · exact h.c7.ne h.si.blk (by decide) e
    · exact h.si.row.notBlk h.c7 (by decide) e
  · rintro k hk (e | e)
    · subst e; exact h.ra.notBlk h.si.blk (by decide) hk
    · exact h.sep k hk e
  · intro k hk e
    rcases hm.own k e with h1 | h1
    · exact h.sep k hk h1
    · have := h.ra.lt k hk; omega
  · rintro k hk (e | e)
    · subst e; have := h.gs; omega
    · have := h.own k (.inr (.inr e)); omega
  · rintro k (e | e | e)
    · exact h.own k (.inl e)
    · exact h.own k (.inr (.inl e))
    · rcases hm.own k e with h1 | h1
      · exact h.own k (.inr (.inr h1))
      · have := h.nw.size; omega

theorem PK.out {ov' : Value} {ts' : List Tr} (h : PK w0 w B F rec low high base l ts qs ov av lv) (hf : Frm (fun k => k = B.b6 ∨ ov.ownBlock = some k) w w') (hb : Blk w' B.b6 #[ov'] 41) (hr : Row w' 43 3 ov' ts'.length (trs ts')) (ho : ∀ k, ov'.ownBlock = some k → ov.ownBlock = some k ∨ w.heap.size ≤ k) : PK w0 w' B F rec low high base l ts' qs ov' av lv := by
  refine ⟨h.pf.off hf (fun b o hb ho => ?_), ?_, hb, hr, h.c7.frm hf ?_, h.ra.frm hf ?_, h.si.frm hf ?_ ?_, h.sep, Frm.trans h.nw hf ?_, ?_, h.g6, h.g7, h.gs, h.gL⟩
  · rcases hb with rfl | hb
    · have := h.c6
      unfold Blk at this
      rw [this] at ho
      cases ho
      simp
    · obtain ⟨cur, hc⟩ := h.ro.obj hb
      rw [hc] at ho
      cases ho
      simp
  · refine (hf.block _ (Array.getElem?_eq_some_iff.1 h.lp).1 ?_).trans h.lp
    rintro (e | e)
    · exact obj_ne h.lp h.c6 (by simp) e
    · exact h.ro.not h.lp (by simp) e
  · rintro (e | e)
    · exact h.c7.ne h.c6 (by decide) e
    · exact h.ro.notBlk h.c7 (by decide) e
  · rintro k hk (e | e)
    · subst e; exact h.ra.notBlk h.c6 (by decide) hk
    · obtain ⟨c1, h1⟩ := h.ra.obj hk
      exact h.ro.not h1 (by simp) e
  · rintro (e | e)
    · exact h.si.blk.ne h.c6 (by decide) e
    · exact h.ro.notBlk h.si.blk (by decide) e
  · rintro k hk (e | e)
    · subst e; exact h.si.row.notBlk h.c6 (by decide) hk
    · obtain ⟨c1, h1⟩ := h.si.row.obj hk
      exact h.ro.not h1 (by simp) e
  · rintro k hk (e | e)
    · subst e; have := h.g6; omega
    · have := h.own k (.inl e); omega
  · rintro k (e | e)
    · rcases ho k e with h1 | h1
      · exact h.own k (.inl h1)
      · have := h.nw.size; omega
    · exact h.own k (.inr e)

theorem PK.ask {av' : Value} {qs' : List Int} (h : PK w0 w B F rec low high base l ts qs ov av lv) (hf : Frm (fun k => k = B.b7 ∨ av.ownBlock = some k) w w') (hb : Blk w' B.b7 #[av'] 30) (hr : Row w' 3 1 av' qs'.length (qs'.map (Value.int .i64))) (ho : ∀ k, av'.ownBlock = some k → av.ownBlock = some k ∨ w.heap.size ≤ k) : PK w0 w' B F rec low high base l ts qs' ov av' lv := by
  refine ⟨h.pf.off hf (fun b o hb ho => ?_), ?_, h.c6.frm hf ?_, h.ro.frm hf ?_, hb, hr, h.si.frm hf ?_ ?_, ?_, Frm.trans h.nw hf ?_, ?_, h.g6, h.g7, h.gs, h.gL⟩
  · rcases hb with rfl | hb
    · have := h.c7
      unfold Blk at this
      rw [this] at ho
      cases ho
      simp
    · obtain ⟨cur, hc⟩ := h.ra.obj hb
      rw [hc] at ho
      cases ho
      simp
  · refine (hf.block _ (Array.getElem?_eq_some_iff.1 h.lp).1 ?_).trans h.lp
    rintro (e | e)
    · exact obj_ne h.lp h.c7 (by simp) e
    · exact h.ra.not h.lp (by simp) e
  · rintro (e | e)
    · exact h.c6.ne h.c7 (by decide) e
    · exact h.ra.notBlk h.c6 (by decide) e
  · rintro k hk (e | e)
    · subst e; exact h.ro.notBlk h.c7 (by decide) hk
    · obtain ⟨c1, h1⟩ := h.ro.obj hk
      exact h.ra.not h1 (by simp) e
  · rintro (e | e)
    · exact h.si.blk.ne h.c7 (by decide) e
    · exact h.ra.notBlk h.si.blk (by decide) e
  · rintro k hk (e | e)
    · subst e; exact h.si.row.notBlk h.c7 (by decide) hk
    · exact h.sep k e hk
  · intro k hk e
    rcases ho k hk with h1 | h1
    · exact h.sep k h1 e
    · have := h.si.row.lt k e; omega
  · rintro k hk (e | e)
    · subst e; have := h.g7; omega
    · have := h.own k (.inr (.inl e)); omega
  · rintro k (e | e | e)
    · exact h.own k (.inl e)
    · rcases ho k e with h1 | h1
      · exact h.own k (.inr (.inl h1))
      · have := h.nw.size; omega
    · exact h.own k (.inr (.inr e))
end

def PJ (w0 w : World) (B : PB) (F : Value → Option Value) (rec : Loop) (low high base : Int) (l : List Int) (ts : List Tr) (qs : List Int) : Prop := ∃ ov av lv, PK w0 w B F rec low high base l ts qs ov av lv
end Go.Proofs.Ytiejaopidkghdac
