/- Regions that draw their order: what each operation yields is told by a fact of its own; the last ones may come in order. -/
import Derived.Test.YtiejaopidkghdacKi
import Derived.StillTail
namespace Go.Lf
set_option linter.unusedSimpArgs false
set_option linter.unusedVariables false
open Go

section
variable {P : Program} {n : Nat} {ro : Option Nat} {Q : Exit → Fr → World → Prop} {s : Fr} {w : World}

def headB (k : Nat) (all : Array Oper) : Bool := decide (k ≤ all.size) && (decide (k = all.size) || (Region.sinkB .any all k && Region.chainB .any all k))

/-- What a set of operations is closed under. -/
def Shut (all : Array Oper) (L : Nat → Bool) : Prop := ∀ j oj, all[j]? = some oj → L j = true → ∀ e ∈ oj.after, Region.binds .any e = true → L e.on = true

theorem Shut.also {all : Array Oper} {L : Nat → Bool} (h : Shut all L) {i : Nat} {o : Oper} (ho : all[i]? = some o) (hd : ∀ e ∈ o.after, Region.binds .any e = true → L e.on = true) : Shut all (also i L) := by
  intro j oj hj hl e he hb
  unfold Lf.also at hl ⊢
  by_cases hji : j = i
  · subst hji
    have : oj = o := Option.some.inj (hj.symm.trans ho)
    subst this
    split
    · rfl
    · exact hd e he hb
  · rw [if_neg hji] at hl
    split
    · rfl
    · exact h j oj hj hl e he hb

theorem sinks_done {all : Array Oper} {L : Nat → Bool} {k : Nat} (hs : Region.sinkB .any all k = true) (hL : Shut all L) {o : Oper} (ho : all[k]? = some o) (hd : ∀ e ∈ o.after, Region.binds .any e = true → L e.on = true) :
    ∀ (d i : Nat), k - i = d → i < k → L i = true := by
  intro d
  induction d using Nat.strongRecOn with
  | _ d ih =>
    intro i hdi hi
    have h1 := List.all_eq_true.1 hs i (List.mem_range.2 hi)
    obtain ⟨j, hj, hj2⟩ := List.any_eq_true.1 h1
    simp only [Bool.and_eq_true, decide_eq_true_eq] at hj2
    obtain ⟨oj, hoj, e, he, hb, hon⟩ := Region.waitsFor_spec hj2.2
    have hjle : j ≤ k := by have := List.mem_range.1 hj; omega
    by_cases hjk : j = k
    · subst hjk
      have : oj = o := Option.some.inj (hoj.symm.trans ho)
      subst this
      rw [← hon]; exact hd e he hb
    · have hlj := ih (k - j) (by omega) j rfl (by omega)
      rw [← hon]; exact hL j oj hoj hlj e he hb

theorem fw_region_head {id : Nat} {l : List Oper} (k : Nat) (hm : P.follows .mixedOrders = true) (hd : dstsOk n l.toArray = true) (hE : edgesDown l.toArray = true) (hB : headB k l.toArray = true)
    (J : (Nat → Bool) → Fr → World → Prop) (h0 : J (fun _ => false) s { w with drawn := w.drawn + 1 })
    (step : ∀ L s w i o, i < k → J L s w → l[i]? = some o → L i = false → (∀ e ∈ o.after, Region.binds .any e = true → L e.on = true) →
      if Region.wanted o (yieldF l.toArray s) = true then opF P ro o s w (J (also i L)) else J (also i L) (s.put o.dst undef) w)
    (tail : ∀ s w, J (fun j => decide (j < k)) s w → opsF P ro l.toArray (Q .normal) (l.drop k) s w) : FW P n ro (.region id l.toArray true) Q s w := by
  simp only [headB, Bool.and_eq_true, Bool.or_eq_true, decide_eq_true_eq, List.size_toArray] at hB
  obtain ⟨hkle, hB⟩ := hB
  have chain : ∀ (i : Nat) (o : Oper), k < i → l[i]? = some o → ∃ e ∈ o.after, Region.binds .any e = true ∧ e.on = i - 1 := by
    intro i o hki ho
    have hlt : i < l.length := (List.getElem?_eq_some_iff.1 ho).1
    rcases hB with h | ⟨_, hc⟩
    · omega
    · have h1 := List.all_eq_true.1 hc i (List.mem_range.2 (by simpa using hlt))
      simp only [Bool.or_eq_true, decide_eq_true_eq] at h1
      rcases h1 with h1 | h1
      · omega
      · obtain ⟨o', ho', e, he, hb, hon⟩ := Region.waitsFor_spec h1
        have : o' = o := Option.some.inj (ho'.symm.trans (by simpa using ho))
        subst this
        exact ⟨e, he, hb, hon⟩
  refine fw_region_any hm hd hE
    (fun L s w => Shut l.toArray L ∧ (((∀ t, k ≤ t → L t = false) ∧ J L s w) ∨
      (∃ t, k ≤ t ∧ t ≤ l.length ∧ (∀ j, j < t → L j = true) ∧ (∀ j, t ≤ j → L j = false) ∧ opsF P ro l.toArray (Q .normal) (l.drop t) s w)))
    ⟨fun j oj _ hl => (by cases hl), .inl ⟨fun _ _ => rfl, h0⟩⟩ ?_ ?_
  · rintro L s w i o ⟨hL, hJ⟩ ho' hLi hdep
    have ho : l[i]? = some o := by simpa using ho'
    have hL' := hL.also ho' hdep
    have alsoEq : ∀ t, (∀ j, j < t → L j = true) → (∀ j, t ≤ j → L j = false) → i = t → (∀ j, j < t + 1 → also i L j = true) ∧ (∀ j, t + 1 ≤ j → also i L j = false) := by
      intro t h1 h2 hit
      subst hit
      unfold also
      refine ⟨fun j hj => ?_, fun j hj => ?_⟩
      · split
        · rfl
        · exact h1 j (by omega)
      · rw [if_neg (by omega)]; exact h2 j (by omega)
    have tailStep : ∀ t, t ≤ l.length → (∀ j, j < t → L j = true) → (∀ j, t ≤ j → L j = false) → k ≤ t → i = t → opsF P ro l.toArray (Q .normal) (l.drop t) s w →
        if Region.wanted o (yieldF l.toArray s) = true then opF P ro o s w (fun s w => Shut l.toArray (also i L) ∧ (((∀ t, k ≤ t → also i L t = false) ∧ J (also i L) s w) ∨
          (∃ t, k ≤ t ∧ t ≤ l.length ∧ (∀ j, j < t → also i L j = true) ∧ (∀ j, t ≤ j → also i L j = false) ∧ opsF P ro l.toArray (Q .normal) (l.drop t) s w)))
        else (Shut l.toArray (also i L) ∧ (((∀ t, k ≤ t → also i L t = false) ∧ J (also i L) (s.put o.dst undef) w) ∨
          (∃ t, k ≤ t ∧ t ≤ l.length ∧ (∀ j, j < t → also i L j = true) ∧ (∀ j, t ≤ j → also i L j = false) ∧ opsF P ro l.toArray (Q .normal) (l.drop t) (s.put o.dst undef) w))) := by
      intro t ht h1 h2 hkt hit hops
      have hlt : i < l.length := (List.getElem?_eq_some_iff.1 ho).1
      obtain ⟨e1, e2⟩ := alsoEq t h1 h2 hit
      subst hit
      have hdr : l.drop i = o :: l.drop (i + 1) := by
        rw [List.drop_eq_getElem_cons hlt]
        congr 1
        have := List.getElem?_eq_getElem hlt
        rw [ho] at this
        exact (Option.some.inj this).symm
      rw [hdr] at hops
      simp only [opsF] at hops
      split
      · rename_i hw
        rw [if_pos hw] at hops
        exact upF_mono (fun s' w' h' => ⟨hL', .inr ⟨i + 1, by omega, by omega, e1, e2, h'⟩⟩) hops
      · rename_i hw
        rw [if_neg hw] at hops
        exact ⟨hL', .inr ⟨i + 1, by omega, by omega, e1, e2, hops⟩⟩
    rcases hJ with ⟨hno, hJ⟩ | ⟨t, hkt, htl, h1, h2, hops⟩
    · by_cases hik : i < k
      · have hst := step L s w i o hik hJ ho hLi hdep
        have hno' : ∀ t, k ≤ t → also i L t = false := fun t ht => by
          unfold also; rw [if_neg (by omega)]; exact hno t ht
        split
        · rename_i hw
          rw [if_pos hw] at hst
          exact upF_mono (fun s' w' h' => ⟨hL', .inl ⟨hno', h'⟩⟩) hst
        · rename_i hw
          rw [if_neg hw] at hst
          exact ⟨hL', .inl ⟨hno', hst⟩⟩
      · have hlt : i < l.length := (List.getElem?_eq_some_iff.1 ho).1
        have hieq : i = k := by
          rcases Nat.lt_or_ge k i with h | h
          · obtain ⟨e, he, hb, hon⟩ := chain i o h ho
            have h3 := hdep e he hb
            rw [hon, hno (i - 1) (by omega)] at h3
            cases h3
          · omega
        have hall : ∀ j, j < k → L j = true := by
          intro j hj
          rcases hB with h | ⟨hs, _⟩
          · omega
          · exact sinks_done hs hL (hieq ▸ ho') hdep (k - j) j rfl hj
        have hfe : L = fun j => decide (j < k) := by
          funext j
          by_cases hj : j < k
          · simp [hj, hall j hj]
          · simp [hj, hno j (by omega)]
        rw [hfe] at hJ
        exact tailStep k hkle hall hno (Nat.le_refl _) hieq (tail s w hJ)
    · have hit : i = t := by
        rcases Nat.lt_or_ge i t with h | h
        · rw [h1 i h] at hLi; cases hLi
        · rcases Nat.lt_or_ge t i with h' | h'
          · obtain ⟨e, he, hb, hon⟩ := chain i o (by omega) ho
            have h3 := hdep e he hb
            rw [hon, h2 (i - 1) (by omega)] at h3
            cases h3
          · omega
      exact tailStep t htl h1 h2 hkt hit hops
  · rintro L s w ⟨hL, hJ⟩ hall
    simp only [List.size_toArray] at hall
    rcases hJ with ⟨hno, hJ⟩ | ⟨t, hkt, htl, h1, h2, hops⟩
    · have hkl : k = l.length := by
        rcases Nat.lt_or_ge k l.length with h | h
        · have := hall k h
          rw [hno k (Nat.le_refl _)] at this
          cases this
        · omega
      have hfe : L = fun j => decide (j < k) := by
        funext j
        by_cases hj : j < k
        · simp [hj, hall j (by omega)]
        · simp [hj, hno j (by omega)]
      rw [hfe] at hJ
      have := tail s w hJ
      rw [hkl, List.drop_length] at this
      exact this
    · have htl' : t = l.length := by
        rcases Nat.lt_or_ge t l.length with h | h
        · have := hall t h
          rw [h2 t (Nat.le_refl _)] at this
          cases this
        · omega
      rw [htl', List.drop_length] at hops
      exact hops

/-! ### facts, one for each operation -/

def dstAt (l : List Oper) (i : Nat) : Option Tmp := (l[i]?).bind (·.dst)
def depB (l : List Oper) (i j : Nat) : Bool := match l[i]? with | some o => o.after.any fun e => Region.binds .any e && e.on == j | none => false
/-- Slots that the first k operations write are apart. -/
def apartB (k : Nat) (l : List Oper) : Bool := (List.range k).all fun i => (List.range k).all fun j => decide (i = j) || (match dstAt l i, dstAt l j with | some a, some b => decide (a ≠ b) | _, _ => true)
def wroteB (k : Nat) (l : List Oper) (r : Nat) : Bool := (List.range k).any fun i => dstAt l i == some r

theorem depB_spec {l : List Oper} {i j : Nat} {o : Oper} (ho : l[i]? = some o) (h : depB l i j = true) : ∃ e ∈ o.after, Region.binds .any e = true ∧ e.on = j := by
  unfold depB at h
  rw [ho] at h
  simp only [Array.any_eq_true', Bool.and_eq_true, beq_iff_eq] at h
  exact h

/-- What is known when an operation runs; what it must lead to. -/
def OpOk (P : Program) (ro : Option Nat) (l : List Oper) (k : Nat) (w0 : World) (t0 : Nat → Value) (F : Nat → Value → World → Prop) (i : Nat) : Prop :=
  ∀ (s : Fr) (w : World) (o : Oper), l[i]? = some o → New w0 w → (∀ r, wroteB k l r = false → s.t r = t0 r) → (∀ j d, depB l i j = true → dstAt l j = some d → F j (s.t d) w) →
    ∀ next : Fr → World → Prop, (∀ v w', New w w' → F i v w' → next (s.put o.dst v) w') → if Region.wanted o (yieldF l.toArray s) = true then opF P ro o s w next else F i undef w

theorem fw_region_facts {id : Nat} {l : List Oper} (k : Nat) (F : Nat → Value → World → Prop) (hm : P.follows .mixedOrders = true) (hd : dstsOk n l.toArray = true) (hE : edgesDown l.toArray = true) (hB : headB k l.toArray = true) (hA : apartB k l = true)
    (hst : ∀ j v w1 w2, New w1 w2 → F j v w1 → F j v w2)
    (ops : ∀ i, i < k → OpOk P ro l k w s.t F i)
    (tail : ∀ (s' : Fr) (w' : World), New w w' → s'.ds = s.ds → (∀ r, wroteB k l r = false → s'.t r = s.t r) → (∀ j d, j < k → dstAt l j = some d → F j (s'.t d) w') → opsF P ro l.toArray (Q .normal) (l.drop k) s' w') :
    FW P n ro (.region id l.toArray true) Q s w := by
  have apart : ∀ i j a b, i < k → j < k → dstAt l i = some a → dstAt l j = some b → i ≠ j → a ≠ b := by
    intro i j a b hi hj ha hb hne
    have h1 := List.all_eq_true.1 (List.all_eq_true.1 hA i (List.mem_range.2 hi)) j (List.mem_range.2 hj)
    rw [ha, hb] at h1
    simp only [Bool.or_eq_true, decide_eq_true_eq] at h1
    rcases h1 with h1 | h1
    · exact absurd h1 hne
    · exact h1
  refine fw_region_head k hm hd hE hB
    (fun L s' w' => New w w' ∧ s'.ds = s.ds ∧ (∀ r, wroteB k l r = false → s'.t r = s.t r) ∧ ∀ j d, j < k → L j = true → dstAt l j = some d → F j (s'.t d) w')
    ⟨Frm.drew _ _ _, rfl, fun _ _ => rfl, fun _ _ _ h => by cases h⟩ ?_ ?_
  · rintro L s' w' i o hik ⟨hN, hds, hr, hF⟩ ho hLi hdep
    have hle : ∀ j, depB l i j = true → L j = true ∧ j < i := by
      intro j hj
      obtain ⟨e, he, hb, hon⟩ := depB_spec ho hj
      exact ⟨hon ▸ hdep e he hb, hon ▸ edgesDown_spec hE (by simpa using ho) e he hb⟩
    have h' := ops i hik s' w' o ho hN hr (fun j d hj hdst => hF j d (by have := (hle j hj).2; omega) (hle j hj).1 hdst)
    have key : ∀ (v : Value) (w2 : World), New w' w2 → F i v w2 → New w w2 ∧ (s'.put o.dst v).ds = s.ds ∧ (∀ r, wroteB k l r = false → (s'.put o.dst v).t r = s.t r) ∧ ∀ j d, j < k → also i L j = true → dstAt l j = some d → F j ((s'.put o.dst v).t d) w2 := by
      intro v w2 hN2 hFi
      have hdo : dstAt l i = o.dst := by simp [dstAt, ho]
      refine ⟨New.trans hN hN2, ?_, fun r hrw => ?_, fun j d hj hl hdst => ?_⟩
      · cases o.dst <;> exact hds
      · cases hod : o.dst with
        | none => exact hr r hrw
        | some d =>
          have hne : ¬ r = d := by
            rintro rfl
            have : wroteB k l r = true := List.any_eq_true.2 ⟨i, List.mem_range.2 hik, by simp [hdo, hod]⟩
            rw [this] at hrw
            cases hrw
          simp only [Fr.put, if_neg hne]
          exact hr r hrw
      · unfold also at hl
        by_cases hji : j = i
        · subst hji
          have : o.dst = some d := by rw [← hdo]; exact hdst
          rw [this]
          simp only [Fr.put, if_true]
          exact hFi
        · rw [if_neg hji] at hl
          have hold := hst j _ _ _ hN2 (hF j d hj hl hdst)
          cases hod : o.dst with
          | none => exact hold
          | some d' =>
            have := apart i j d' d hik hj (by rw [hdo, hod]) hdst (fun e => hji e.symm)
            have hne : ¬ d = d' := fun e => this e.symm
            simp only [Fr.put, if_neg hne]
            exact hold
    have h := h' (fun s2 w2 => New w w2 ∧ s2.ds = s.ds ∧ (∀ r, wroteB k l r = false → s2.t r = s.t r) ∧ ∀ j d, j < k → also i L j = true → dstAt l j = some d → F j (s2.t d) w2) key
    split
    · rename_i hw
      rw [if_pos hw] at h
      exact upF_mono (fun s2 w2 hh => hh) h
    · rename_i hw
      rw [if_neg hw] at h
      exact key undef w' (Frm.refl _ _) h
  · rintro s' w' ⟨hN, hds, hr, hF⟩
    exact tail s' w' hN hds hr (fun j d hj hdst => hF j d hj (by simpa using hj) hdst)

theorem cell_new {w w' : World} (h : New w w') {a : Addr} {v : Value} (hc : w.cell? a = some v) : w'.cell? a = some v := by
  unfold World.cell? at hc ⊢
  have hlt : a.block < w.heap.size := by
    rcases Nat.lt_or_ge a.block w.heap.size with h | h
    · exact h
    · rw [Array.getElem?_eq_none h] at hc; cases hc
  rw [h.block a.block hlt (fun h => h)]
  exact hc

/-- The fact that a value is this one. -/
def IsV (u : Value) : Value → World → Prop := fun v _ => v = u
/-- The fact that a value leads to a new block of these cells. -/
def IsBlk (N : Nat) (c : Array Value) (T : TypeId) : Value → World → Prop := fun v w => ∃ b, v = .pointer (some ⟨b, 0, none⟩) ∧ N ≤ b ∧ Blk w b c T
def Any : Value → World → Prop := fun _ _ => True
def Stb (F : Value → World → Prop) : Prop := ∀ v w1 w2, New w1 w2 → F v w1 → F v w2
theorem stb_isV (u : Value) : Stb (IsV u) := fun _ _ _ _ h => h
theorem stb_any : Stb Any := fun _ _ _ _ h => h
theorem stb_isBlk (N : Nat) (c : Array Value) (T : TypeId) : Stb (IsBlk N c T) := fun _ _ _ hn ⟨b, h1, h2, h3⟩ => ⟨b, h1, h2, h3.frm hn (fun h => h)⟩
def FL (L : List (Value → World → Prop)) (i : Nat) : Value → World → Prop := L.getD i Any
def StbL : List (Value → World → Prop) → Prop
  | [] => True
  | F :: L => Stb F ∧ StbL L
theorem fl_st : ∀ (L : List (Value → World → Prop)), StbL L → ∀ j v w1 w2, New w1 w2 → FL L j v w1 → FL L j v w2
  | [], _, _, _, _, _, _, _ => trivial
  | F :: L, h, 0, v, w1, w2, hn, hf => h.1 v w1 w2 hn hf
  | F :: L, h, j + 1, v, w1, w2, hn, hf => fl_st L h.2 j v w1 w2 hn hf
theorem fl_z {F : Value → World → Prop} {L : List (Value → World → Prop)} {v : Value} {w : World} (h : F v w) : FL (F :: L) 0 v w := h
theorem fl_s {F : Value → World → Prop} {L : List (Value → World → Prop)} {i : Nat} {v : Value} {w : World} (h : FL L i v w) : FL (F :: L) (i + 1) v w := h
theorem of_z {F : Value → World → Prop} {L : List (Value → World → Prop)} {v : Value} {w : World} (h : FL (F :: L) 0 v w) : F v w := h
theorem of_s {F : Value → World → Prop} {L : List (Value → World → Prop)} {i : Nat} {v : Value} {w : World} (h : FL (F :: L) (i + 1) v w) : FL L i v w := h
theorem isV {u : Value} {w : World} : IsV u u w := rfl
theorem isV_eq {u v : Value} {w : World} (h : IsV u v w) : v = u := h
theorem all_lt_zero {X : Nat → Prop} : ∀ i, i < 0 → X i := fun i h => absurd h (Nat.not_lt_zero i)
theorem all_lt_succ {X : Nat → Prop} {k : Nat} (h : ∀ i, i < k → X i) (hk : X k) : ∀ i, i < k + 1 → X i := fun i hi => by
  rcases Nat.lt_or_ge i k with h' | h'
  · exact h i h'
  · have : i = k := by omega
    exact this ▸ hk
end
end Go.Lf
