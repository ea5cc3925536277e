/- The calculus' rules for regions and for a whole function. -/
import Derived.Test.YtiejaopidkghdacKa
namespace Go.Lf
set_option linter.unusedSimpArgs false
set_option linter.unusedVariables false
open Go

section
variable {P : Program} {n : Nat} {ro : Option Nat} {Q : Exit → Fr → World → Prop} {s : Fr} {w : World}

theorem dstsOk_spec {all : Array Oper} (h : dstsOk n all = true) {i : Nat} {o : Oper} (hi : all[i]? = some o) : ∀ k, o.dst = some k → k < n := by
  intro k hk
  have hm : o ∈ all.toList := Array.mem_toList_iff.2 (Array.mem_of_getElem? hi)
  have := List.all_eq_true.1 h o hm
  rw [hk] at this
  simpa using this

theorem yieldF_sim {all : Array Oper} {a : Act} (hd : dstsOk n all = true) (hs : Sim n s a) : yielded all a.tmps = yieldF all s := by
  funext j
  unfold yielded yieldF
  cases hj : all[j]? with
  | none => rfl
  | some o =>
    cases hdst : o.dst with
    | none => simp [hdst]
    | some d =>
      have hlt := dstsOk_spec hd hj d hdst
      have hg := hs.get d
      have hsz := hs.size
      simp only [Option.bind_some, hdst]
      rw [Array.getD_eq_getD_getElem?] at hg
      have hlt' : d < a.tmps.size := by rw [hsz]; exact hlt
      have : a.tmps[d]? = some (s.t d) := by
        rw [← hg, Array.getElem?_eq_getElem hlt']; rfl
      rw [this]
      cases s.t d <;> rfl

theorem opF_sound {o : Oper} {a : Act} {next : Fr → World → Prop} {next' : Act → World → Prop} {Q' : Exit → Act → World → Prop} (hs : Sim n s a) (hd : ∀ k, o.dst = some k → k < n)
    (hn : ∀ s' a' w', Sim n s' a' → next s' w' → next' a' w') (h : opF P ro o s w next) : o.wpIn (Fen ro) 0 P a w next' Q' := by
  refine ⟨fun _ _ => trivial, ?_⟩
  unfold opF at h
  rw [hs.eval]
  show o.uponIn (Fen ro) 0 P a next' Q' ((o.semAt ro s.ev).run P w)
  generalize (o.semAt ro s.ev).run P w = r at *
  cases r with
  | halt x w' => exact h.elim
  | ok x w' =>
    cases x with
    | value v => exact hn _ _ _ (hs.put _ hd v) h
    | skip => exact hn _ _ _ (hs.put _ hd undef) h
    | defer d => exact hn _ _ _ ((show Sim n { s with ds := d :: s.ds } { a with defers := d :: a.defers } from ⟨by simp [hs.ds], hs.size, hs.get⟩).put _ hd undef) h
    | enter f args =>
      refine ⟨depth_Fen ro 0, (callsIn_Fen h).mono fun e w'' he => ?_⟩
      obtain ⟨v, rfl, hv⟩ := he
      exact hn _ _ _ (hs.put _ hd v) hv
    | round l f tmps assign body =>
      refine ⟨depth_Fen ro 0, RoundIn.mono h fun e w'' he => ?_⟩
      obtain ⟨v, rfl, hv⟩ := he
      exact hn _ _ _ (hs.put _ hd v) hv
    | _ => exact h.elim

theorem upF_mono {o : Oper} {next next' : Fr → World → Prop} (h : ∀ s w, next s w → next' s w) {r : Result Next} (hr : upF P ro o s next r) : upF P ro o s next' r := by
  cases r with
  | halt x w' => exact hr.elim
  | ok x w' =>
    cases x with
    | value v => exact h _ _ hr
    | skip => exact h _ _ hr
    | defer d => exact h _ _ hr
    | enter f args => exact Calls.mono hr fun e w'' ⟨v, he, hv⟩ => ⟨v, he, h _ _ hv⟩
    | round l f tmps assign body => exact RoundIn.mono hr fun e w'' ⟨v, he, hv⟩ => ⟨v, he, h _ _ hv⟩
    | _ => exact hr.elim

theorem opsF_sound {all : Array Oper} (hd : dstsOk n all = true) : ∀ (l : List Oper) (k : Nat), (∀ j, l[j]? = all[k + j]?) → ∀ (s : Fr) (a : Act) (w : World), Sim n s a →
    opsF P ro all (Q .normal) l s w → wpOpsIn (Fen ro) 0 P all (fun e a' w' => ∃ s', Sim n s' a' ∧ Q e s' w') (List.range' k l.length) a w := by
  intro l
  induction l with
  | nil => intro k _ s a w hs h; exact ⟨s, hs, h⟩
  | cons o l ih =>
    intro k hk s a w hs h
    have h0 : all[k]? = some o := by simpa using (hk 0).symm
    have hk' : ∀ j, l[j]? = all[k + 1 + j]? := fun j => by have := hk (j + 1); simpa [Nat.add_assoc, Nat.add_comm 1 j] using this
    simp only [List.length_cons, List.range'_succ, wpOpsIn, h0]
    rw [yieldF_sim hd hs]
    simp only [opsF] at h
    split
    · rename_i hw
      rw [if_pos hw] at h
      exact opF_sound hs (dstsOk_spec hd h0) (fun s' a' w' hs' h' => ih (k + 1) hk' s' a' w' hs' h') h
    · rename_i hw
      rw [if_neg hw] at h
      exact ⟨fun _ _ => trivial, ih (k + 1) hk' _ _ _ (hs.put _ (dstsOk_spec hd h0) undef) h⟩

theorem fw_region {id : Nat} {all : Array Oper} (hd : dstsOk n all = true) (h : opsF P ro all (Q .normal) all.toList s w) : FW P n ro (.region id all false) Q s w :=
  fun a ha => wpIn_region (by
    have := opsF_sound (Q := Q) hd all.toList 0 (by simp) s a w ha h
    rwa [Array.length_toList, ← List.range_eq_range'] at this)

theorem fw_region_lit {id : Nat} {l : List Oper} (hd : dstsOk n l.toArray = true) (h : opsF P ro l.toArray (Q .normal) l s w) : FW P n ro (.region id l.toArray false) Q s w :=
  fw_region hd (by simpa using h)

/-- Every edge that binds leads to an earlier operation. -/
def edgesDown (all : Array Oper) : Bool := (List.range all.size).all fun i => match all[i]? with
  | some o => o.after.all fun e => !Region.binds .any e || decide (e.on < i)
  | none => true

theorem edgesDown_spec {all : Array Oper} (h : edgesDown all = true) {i : Nat} {o : Oper} (hi : all[i]? = some o) : ∀ e ∈ o.after, Region.binds .any e = true → e.on < i := by
  intro e he hb
  have hlt := (Array.getElem?_eq_some_iff.1 hi).1
  have := List.all_eq_true.1 h i (List.mem_range.2 hlt)
  rw [hi] at this
  simp only [Array.all_eq_true_iff_forall_mem, Bool.or_eq_true, Bool.not_eq_true', decide_eq_true_eq] at this
  rcases this e he with h | h
  · rw [hb] at h; cases h
  · exact h

/-- One operation more is done. -/
def also (i : Nat) (L : Nat → Bool) : Nat → Bool := fun k => if k = i then true else L k

/-- Any order: an invariant over which operations are done. -/
theorem wpAny_inv {all : Array Oper} (hd : dstsOk n all = true) (hE : edgesDown all = true) (J : (Nat → Bool) → Fr → World → Prop)
    (step : ∀ L s w i o, J L s w → all[i]? = some o → L i = false → (∀ e ∈ o.after, Region.binds .any e = true → L e.on = true) →
      if Region.wanted o (yieldF all s) = true then opF P ro o s w (J (also i L)) else J (also i L) (s.put o.dst undef) w)
    (done : ∀ L s w, J L s w → (∀ i, i < all.size → L i = true) → Q .normal s w) :
    ∀ (fuel : Nat) (U : List Nat) (listed : Array Bool) (s : Fr) (a : Act) (w : World), U.length ≤ fuel → listed.size = all.size → (∀ i, i < all.size → listed.getD i false = false → i ∈ U) →
      Sim n s a → J (fun k => listed.getD k false) s w → wpAnyIn (Fen ro) 0 P .any all (fun e a' w' => ∃ s', Sim n s' a' ∧ Q e s' w') fuel listed a w := by
  have getD_eq : ∀ (listed : Array Bool) i, i < listed.size → listed.getD i true = listed.getD i false := fun listed i hi => by
    simp [hi]
  have fin : ∀ (listed : Array Bool) (s : Fr) (a : Act) (w : World), listed.size = all.size → Sim n s a → J (fun k => listed.getD k false) s w → Region.ready .any all listed = [] →
      ∃ s', Sim n s' a ∧ Q .normal s' w := by
    intro listed s a w hsz hs hJ hr
    refine ⟨s, hs, done _ s w hJ ?_⟩
    intro i
    induction i using Nat.strongRecOn with
    | _ i ih =>
      intro hlt
      by_cases hi : listed.getD i false = true
      · exact hi
      · exfalso
        have hmem : i ∈ Region.ready .any all listed := mem_ready.2 ⟨by rw [getD_eq _ _ (hsz ▸ hlt)]; simpa using hi, all[i], Array.getElem?_eq_getElem hlt, fun e he hb => by
          have h1 := edgesDown_spec hE (Array.getElem?_eq_getElem hlt) e he hb
          exact ih e.on h1 (by omega)⟩
        rw [hr] at hmem
        cases hmem
  intro fuel
  induction fuel with
  | zero =>
    intro U listed s a w hU hsz hmem hs hJ
    have hall : ∀ i, i < all.size → listed.getD i false = true := fun i hi => by
      by_cases h : listed.getD i false = true
      · exact h
      · have := hmem i hi (by simpa using h)
        rw [List.eq_nil_of_length_eq_zero (Nat.le_zero.1 hU)] at this
        cases this
    have hr : Region.ready .any all listed = [] := by
      apply List.eq_nil_iff_forall_not_mem.2
      intro i hi
      obtain ⟨h0, o, ho, _⟩ := mem_ready.1 hi
      have hlt := (Array.getElem?_eq_some_iff.1 ho).1
      rw [getD_eq _ _ (hsz ▸ hlt), hall i hlt] at h0
      cases h0
    exact ⟨hr, fin listed s a w hsz hs hJ hr⟩
  | succ fuel ih =>
    intro U listed s a w hU hsz hmem hs hJ
    refine ⟨fun hr => fin listed s a w hsz hs hJ hr, fun i hi => ?_⟩
    obtain ⟨h0, o, ho, hall⟩ := mem_ready.1 hi
    have hlt := (Array.getElem?_eq_some_iff.1 ho).1
    rw [getD_eq _ _ (hsz ▸ hlt)] at h0
    have hst := step _ s w i o hJ ho h0 hall
    have hUi := hmem i hlt h0
    have hset : (fun k => (listed.setIfInBounds i true).getD k false) = also i (fun k => listed.getD k false) := by
      funext k
      unfold also
      by_cases hk : k = i
      · subst hk; simp [hsz, hlt]
      · have hne : ¬ i = k := fun e => hk e.symm
        rw [if_neg hk]
        simp [hne]
    have next : ∀ s' a' w', Sim n s' a' → J (also i fun k => listed.getD k false) s' w' →
        wpAnyIn (Fen ro) 0 P .any all (fun e a' w' => ∃ s', Sim n s' a' ∧ Q e s' w') fuel (listed.setIfInBounds i true) a' w' := by
      intro s' a' w' hs' hJ'
      refine ih (U.erase i) _ s' a' w' ?_ (by simp [hsz]) ?_ hs' (by rw [hset]; exact hJ')
      · have := List.length_erase_of_mem hUi
        have hpos : 0 < U.length := List.length_pos_of_mem hUi
        omega
      · intro j hj hlj
        have h' := congrFun hset j
        unfold also at h'
        rw [hlj] at h'
        by_cases hji : j = i
        · rw [if_pos hji] at h'; cases h'
        · rw [if_neg hji] at h'
          exact (List.mem_erase_of_ne hji).2 (hmem j hj h'.symm)
    unfold wpOpIn
    simp only [ho]
    rw [yieldF_sim hd hs]
    split
    · rename_i hw
      rw [if_pos hw] at hst
      exact opF_sound hs (dstsOk_spec hd ho) next hst
    · rename_i hw
      rw [if_neg hw] at hst
      exact ⟨fun _ _ => trivial, next _ _ _ (hs.put _ (dstsOk_spec hd ho) undef) hst⟩

theorem fw_region_any {id : Nat} {all : Array Oper} (hm : P.follows .mixedOrders = true) (hd : dstsOk n all = true) (hE : edgesDown all = true) (J : (Nat → Bool) → Fr → World → Prop)
    (h0 : J (fun _ => false) s { w with drawn := w.drawn + 1 })
    (step : ∀ L s w i o, J L s w → all[i]? = some o → L i = false → (∀ e ∈ o.after, Region.binds .any e = true → L e.on = true) →
      if Region.wanted o (yieldF all s) = true then opF P ro o s w (J (also i L)) else J (also i L) (s.put o.dst undef) w)
    (done : ∀ L s w, J L s w → (∀ i, i < all.size → L i = true) → Q .normal s w) : FW P n ro (.region id all true) Q s w := by
  intro a ha
  refine wpIn_region_any hm (wpAny_inv hd hE J step done all.size (List.range all.size) (Array.replicate all.size false) s a _ (by simp) (by simp) (fun i hi _ => List.mem_range.2 hi) ha ?_)
  have : (fun k => (Array.replicate all.size false).getD k false) = fun _ => false := by
    funext k
    by_cases hk : k < all.size <;> simp [hk]
  rw [this]
  exact h0
end
end Go.Lf
