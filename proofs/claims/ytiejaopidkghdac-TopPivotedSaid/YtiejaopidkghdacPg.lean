/- The map of steps that hold; the step's question; the tries' iterator made. -/
import Derived.Test.YtiejaopidkghdacPf
namespace Go.Proofs.Ytiejaopidkghdac
set_option linter.unusedSimpArgs false
set_option linter.unusedVariables false
open Go.RowKit Go.Lf

theorem laidOut : laidOutB Try.prog = true := by kernel_rfl
theorem row39 : (39 : TypeId) < Try.prog.types.size := of_decide_eq_true (by kernel_rfl)
theorem wide39 : (match Try.prog.underlying 39 with | some (.array _ _) | some (.struct _) => true | _ => false) = true := by rw [Try.underlying39]
theorem key39 : Maps.Keyed Try.prog 39 := Maps.Keyed.of_law (deep_law_laid laidOut (m := 2) (by omega) row39 (by kernel_rfl) wide39)
theorem kt39 : Try.prog.keyType 39 = true := by kernel_rfl
theorem cells39 : Try.prog.cellsOf 39 = 2 := by kernel_rfl
theorem cells3 : Try.prog.cellsOf 3 = 1 := by kernel_rfl
theorem size_types : Try.prog.types.size = 84 := by kernel_rfl

/-- The key of two heights. -/
def spot (a b : Int) : Value := .agg #[.int .i64 a, .int .i64 b]

theorem wf_i64 {a : Int} (h : -9223372036854775808 ≤ a ∧ a ≤ 9223372036854775807) : (Lit.int .i64 a).wf = true := by
  simp [Lit.wf, IntKind.min, IntKind.max, IntKind.signed, IntKind.bits]
  omega

theorem spot_key {a b : Int} (ha : -9223372036854775808 ≤ a ∧ a ≤ 9223372036854775807) (hb : -9223372036854775808 ≤ b ∧ b ≤ 9223372036854775807) : ∃ l, keyOf Try.prog 39 (spot a b) = some l := by
  have ha := wf_i64 ha
  have hb := wf_i64 hb
  have h : ∀ d, Try.prog.keyLits (d + 2) 39 [.int .i64 a, .int .i64 b] = some [.int .i64 a, .int .i64 b] := by
    intro d
    simp [Program.keyLits, Try.underlying39, cells39, cells3, Try.underlying3, ha, hb, show List.range 2 = [0, 1] from rfl]
  have hf : (spot a b).formed Try.prog 39 = true := by simp [spot, Value.formed, Try.underlying39, cells39]
  unfold keyOf
  rw [Try.underlying39]
  simp only [kt39, hf, Bool.and_self, if_true, size_types]
  exact ⟨_, congrArg (Option.map fun ls => Lit.string (keyBytes ls)) (h 83)⟩

theorem spot_inj {a b c d : Int} (h : spot a b = spot c d) : a = c ∧ b = d := by
  simpa [spot] using h

/-- What a map holds: this value, of just these steps. -/
def HasP (F : Value → Option Value) (p : Int → Int → Bool) (v : Value) : Prop := ∀ a b, F (spot a b) = if p a b = true then some v else none

theorem zero59 (w : World) : (zeroValue 59).run Try.prog w = .ok (.agg #[]) w := by simp [go_sem]

noncomputable def body24 : Code := Try.f24.body.getD .skip
theorem call24 (args : Array Value) (w : World) : (callFunc 24 args).run Try.prog w = .ok (.enter 24 args) w := callFunc_enter Try.func24 (by kernel_rfl) (by kernel_rfl) args w
noncomputable def body25 : Code := Try.f25.body.getD .skip
theorem call25 (args : Array Value) (w : World) : (callFunc 25 args).run Try.prog w = .ok (.enter 25 args) w := callFunc_enter Try.func25 (by kernel_rfl) (by kernel_rfl) args w
theorem plan1_any (b mb : Nat) (F : Value → Option Value) (p : Int → Int → Bool) (x y : Int) (w : World) (hb : Blk w b #[.map (some mb)] 57) (hm : MapIs Try.prog 39 w mb F) (hp : HasP F p (.agg #[])) (hx : 0 ≤ x ∧ x ≤ 1000000) (hy : 0 ≤ y ∧ y ≤ 1000000) :
    CallsV Try.prog 25 #[.int .i64 x, .int .i64 y, .pointer (some ⟨b, 0, none⟩)] w fun v w' => v = .bool (p x y) ∧ New w w' := by
  have x0 := hb.cell 0
  obtain ⟨kl, hkey⟩ := spot_key (a := x) (b := y) (by omega) (by omega)
  have hlook := hm.look key39 Try.underlying57 (zero59 w) hkey
  rw [hp x y] at hlook
  simp only [spot] at hlook
  have hA := Frm.alloc (fun _ => False) w (.cells #[] 59)
  refine calls_at body25 Try.func25 rfl 17 rfl (by simp) fun s hs hds => ?_
  have h0 := hs 0 _ rfl
  have h1 := hs 1 _ rfl
  have h2 := hs 2 _ rfl
  clear hs
  refine at_seq rfl fun K1 hK1 => ?_
  (conv => arg 4; whnf)
  refine fw_region_lit rfl ?_
  simp [go_sem, opsF, opF, upF, Region.wanted, Fr.ev, Fr.put, thenE, inBlockE, Oper.semAt, yieldF, h0, h1, h2]
  refine on_kf hK1 [(0, _), (1, _), (2, _)] (fa_cons h0 (fa_cons h1 (fa_cons h2 fa_nil))) hds ?_
  clear hK1 h0 h1 h2 hds; intro s hs hds
  obtain ⟨h0, h1, h2⟩ := facts3 hs; clear hs
  refine at_seq rfl fun K2 hK2 => ?_
  by_cases hh : p x y = true
  · rw [if_pos hh] at hlook
    (conv => arg 4; whnf)
    refine fw_region_lit rfl ?_
    simp [go_sem, opsF, opF, upF, Region.wanted, Fr.ev, Fr.put, thenE, inBlockE, Oper.semAt, yieldF, h0, h1, h2, x0, hlook]
    refine on_kf hK2 [(7, _)] (fa_cons (by simp [h0, h1, h2] <;> rfl) fa_nil) hds ?_
    clear hK2 h0 h1 h2 hds; intro s hs hds
    have h7 : s.t 7 = _ := hs (7, _) (List.mem_singleton_self _); clear hs
    refine at_seq rfl fun K3 hK3 => ?_
    (conv => arg 4; whnf)
    refine fw_region_lit rfl ?_
    simp [go_sem, opsF, opF, upF, Region.wanted, Fr.ev, Fr.put, thenE, inBlockE, Oper.semAt, yieldF, h7]
    refine on_kf hK3 [(5, _)] (fa_cons (by simp [h7] <;> rfl) fa_nil) hds ?_
    clear hK3 h7 hds; intro s hs hds
    have h5 : s.t 5 = _ := hs (5, _) (List.mem_singleton_self _); clear hs
    refine at_ret rfl ?_
    try simp only [inBlockE, thenE]
    refine ret_one rfl hds ⟨by rw [h5, hh], hA⟩
  · rw [if_neg hh] at hlook
    have hh' : p x y = false := by simpa using hh
    (conv => arg 4; whnf)
    refine fw_region_lit rfl ?_
    simp [go_sem, opsF, opF, upF, Region.wanted, Fr.ev, Fr.put, thenE, inBlockE, Oper.semAt, yieldF, h0, h1, h2, x0, hlook]
    refine on_kf hK2 [(7, _)] (fa_cons (by simp [h0, h1, h2] <;> rfl) fa_nil) hds ?_
    clear hK2 h0 h1 h2 hds; intro s hs hds
    have h7 : s.t 7 = _ := hs (7, _) (List.mem_singleton_self _); clear hs
    refine at_seq rfl fun K4 hK4 => ?_
    (conv => arg 4; whnf)
    refine fw_region_lit rfl ?_
    simp [go_sem, opsF, opF, upF, Region.wanted, Fr.ev, Fr.put, thenE, inBlockE, Oper.semAt, yieldF, h7]
    refine on_kf hK4 [(5, _)] (fa_cons (by simp [h7] <;> rfl) fa_nil) hds ?_
    clear hK4 h7 hds; intro s hs hds
    have h5 : s.t 5 = _ := hs (5, _) (List.mem_singleton_self _); clear hs
    refine at_ret rfl ?_
    try simp only [inBlockE, thenE]
    refine ret_one rfl hds ⟨by rw [h5, hh'], hA⟩

theorem tries_any (sb b11 : Nat) (w : World) : CallsV Try.prog 24 #[.pointer (some ⟨sb, 0, none⟩), .func (.func 25) #[] #[.pointer (some ⟨b11, 0, none⟩)]] w fun r w' => ∃ b1 b2, r = .func (.func 26) #[] #[.pointer (some ⟨b1, 0, none⟩), .pointer (some ⟨b2, 0, none⟩)] ∧ New w w' ∧ w.heap.size ≤ b1 ∧ w.heap.size ≤ b2 ∧ Blk w' b1 #[.pointer (some ⟨sb, 0, none⟩)] 24 ∧ Blk w' b2 #[.func (.func 25) #[] #[.pointer (some ⟨b11, 0, none⟩)]] 64 := by
  have hA := Frm.alloc (fun _ => False) w (.cells #[.pointer (some ⟨sb, 0, none⟩)] 24)
  have hb1 := Blk.new w #[.pointer (some ⟨sb, 0, none⟩)] 24
  have hA2 := Frm.alloc (fun _ => False) (w.alloc (.cells #[.pointer (some ⟨sb, 0, none⟩)] 24)) (.cells #[.func (.func 25) #[] #[.pointer (some ⟨b11, 0, none⟩)]] 64)
  have hb2 := Blk.new (w.alloc (.cells #[.pointer (some ⟨sb, 0, none⟩)] 24)) #[.func (.func 25) #[] #[.pointer (some ⟨b11, 0, none⟩)]] 64
  have hb1' := hb1.frm hA2 (fun h => h)
  simp only [World.size_alloc] at hb2
  refine calls_at body24 Try.func24 rfl 6 rfl (by simp) fun s hs hds => ?_
  have h0 := hs 0 _ rfl
  have h1 := hs 1 _ rfl
  clear hs
  refine at_seq rfl fun K5 hK5 => ?_
  (conv => arg 4; whnf)
  refine fw_region_lit rfl ?_
  simp [go_sem, opsF, opF, upF, Region.wanted, Fr.ev, Fr.put, thenE, inBlockE, Oper.semAt, yieldF, h0, h1]
  refine on_kf hK5 [(2, _), (3, _)] (fa_cons (by simp [h0, h1] <;> rfl) (fa_cons (by simp [h0, h1] <;> rfl) fa_nil)) hds ?_
  clear hK5 h0 h1 hds; intro s hs hds
  obtain ⟨h2, h3⟩ := facts2 hs; clear hs
  refine at_seq rfl fun K6 hK6 => ?_
  (conv => arg 4; whnf)
  refine fw_region_lit rfl ?_
  simp [go_sem, opsF, opF, upF, Region.wanted, Fr.ev, Fr.put, thenE, inBlockE, Oper.semAt, yieldF, h2, h3]
  refine on_kf hK6 [(4, _)] (fa_cons (by simp [h2, h3] <;> rfl) fa_nil) hds ?_
  clear hK6 h2 h3 hds; intro s hs hds
  have h4 : s.t 4 = _ := hs (4, _) (List.mem_singleton_self _); clear hs
  refine at_ret rfl ?_
  try simp only [inBlockE, thenE]
  exact ret_one rfl hds ⟨_, _, h4, New.trans hA hA2, by omega, by omega, hb1', hb2⟩

/-! ### what a plan goes through -/

/-- A state of a plan: its base, its stack. -/
structure PS where
  base : Int
  l : List Int

def nxt (hold : Int → Int → Bool) (p : PS) : PS := if hold p.base (topOf p.l) = true then ⟨topOf p.l, p.l.dropLast⟩ else ⟨p.base, p.l ++ [midOf p.base (topOf p.l)]⟩
/-- Is it over behind this try? -/
def stp (hold : Int → Int → Bool) (p : PS) : Prop := (hold p.base (topOf p.l) = true ∧ p.l.dropLast = []) ∨ (hold p.base (topOf p.l) = false ∧ topOf p.l = p.base + 1)
def pst (hold : Int → Int → Bool) (low high : Int) : Nat → PS
  | 0 => ⟨low, [high]⟩
  | n + 1 => nxt hold (pst hold low high n)
def tryOf (hold : Int → Int → Bool) (p : PS) : Tr := ⟨p.base, topOf p.l, hold p.base (topOf p.l)⟩
def trysOf (hold : Int → Int → Bool) (low high : Int) (n : Nat) : List Tr := (List.range n).map fun i => tryOf hold (pst hold low high i)
def asksOf (hold : Int → Int → Bool) (low high : Int) : Nat → List Int
  | 0 => [high]
  | n + 1 => if hold (pst hold low high n).base (topOf (pst hold low high n).l) = true then asksOf hold low high n else asksOf hold low high n ++ [midOf (pst hold low high n).base (topOf (pst hold low high n).l)]

theorem trysOf_succ (hold : Int → Int → Bool) (low high : Int) (n : Nat) : trysOf hold low high (n + 1) = trysOf hold low high n ++ [tryOf hold (pst hold low high n)] := by
  simp [trysOf, List.range_succ]
theorem trysOf_len (hold : Int → Int → Bool) (low high : Int) (n : Nat) : (trysOf hold low high n).length = n := by simp [trysOf]
theorem asksOf_len (hold : Int → Int → Bool) (low high : Int) : ∀ n, (asksOf hold low high n).length ≤ n + 1
  | 0 => by simp [asksOf]
  | n + 1 => by
    have := asksOf_len hold low high n
    unfold asksOf
    split <;> simp <;> omega

theorem mid_lt {a b : Int} (h : a + 1 < b) : a < midOf a b ∧ midOf a b < b := by unfold midOf; omega

/-- A state that may be, and that is not over before. -/
structure PG (p : PS) : Prop where
  wf : WF p.base p.l
  ne : p.l ≠ []

theorem topOf_append (l : List Int) (x : Int) : topOf (l ++ [x]) = x := by simp [topOf]

theorem PG.next {hold : Int → Int → Bool} {p : PS} (h : PG p) (hs : ¬ stp hold p) : PG (nxt hold p) := by
  have ht := h.wf.top h.ne
  unfold nxt
  by_cases hh : hold p.base (topOf p.l) = true
  · rw [if_pos hh]
    exact ⟨h.wf.pop h.ne, fun e => hs (.inl ⟨hh, e⟩)⟩
  · rw [if_neg hh]
    have hne : topOf p.l ≠ p.base + 1 := fun e => hs (.inr ⟨by simpa using hh, e⟩)
    have hm := mid_lt (a := p.base) (b := topOf p.l) (by omega)
    exact ⟨h.wf.push hm.1 hm.2 h.ne, by simp⟩

def msr (p : PS) : Nat := ((400 - p.base) * 1000 + (topOf p.l - p.base)).toNat
theorem msr_lt {hold : Int → Int → Bool} {p : PS} (h : PG p) (hs : ¬ stp hold p) : msr (nxt hold p) < msr p := by
  have ht := h.wf.top h.ne
  have hn := h.next hs
  have hb := h.wf.b1
  have htn := hn.wf.top hn.ne
  unfold msr
  by_cases hh : hold p.base (topOf p.l) = true
  · unfold nxt at htn ⊢
    rw [if_pos hh] at htn ⊢
    simp only at htn ⊢
    omega
  · have hne : topOf p.l ≠ p.base + 1 := fun e => hs (.inr ⟨by simpa using hh, e⟩)
    have hm := mid_lt (a := p.base) (b := topOf p.l) (by omega)
    unfold nxt at htn ⊢
    rw [if_neg hh] at htn ⊢
    simp only [topOf_append] at htn ⊢
    omega

theorem pst_ends (hold : Int → Int → Bool) (low high : Int) (h1 : 1 ≤ low) (h2 : low < high) (h3 : high ≤ 400) :
    ∃ N : Nat, N ≤ 500000 ∧ stp hold (pst hold low high N) ∧ ∀ k, k < N → ¬ stp hold (pst hold low high k) := by
  have g0 : PG (pst hold low high 0) := ⟨⟨h1, by simp [pst]; omega, by simp [pst], fun x hx => by simp [pst] at hx ⊢; omega⟩, by simp [pst]⟩
  have key : ∀ k : Nat, (∃ N : Nat, N < k ∧ stp hold (pst hold low high N) ∧ ∀ j, j < N → ¬ stp hold (pst hold low high j)) ∨ (PG (pst hold low high k) ∧ msr (pst hold low high k) + k ≤ 500000 ∧ ∀ j, j < k → ¬ stp hold (pst hold low high j)) := by
    intro k
    induction k with
    | zero =>
      refine .inr ⟨g0, ?_, fun j hj => by omega⟩
      have : topOf [high] = high := by simp [topOf]
      simp only [msr, pst, this]
      omega
    | succ k ih =>
      rcases ih with ⟨N, hN, h⟩ | ⟨hg, hm, hj⟩
      · exact .inl ⟨N, by omega, h⟩
      · by_cases hs : stp hold (pst hold low high k)
        · exact .inl ⟨k, by omega, hs, hj⟩
        · refine .inr ⟨hg.next hs, ?_, fun j hj' => ?_⟩
          · have := msr_lt hg hs
            show msr (nxt hold _) + (k + 1) ≤ 500000
            omega
          · by_cases e : j = k
            · rw [e]; exact hs
            · exact hj j (by omega)
  rcases key 500001 with ⟨N, hN, h⟩ | ⟨_, hm, _⟩
  · exact ⟨N, by omega, h⟩
  · omega

theorem pst_good (hold : Int → Int → Bool) (low high : Int) (h1 : 1 ≤ low) (h2 : low < high) (h3 : high ≤ 400) {N : Nat} (h : ∀ k, k < N → ¬ stp hold (pst hold low high k)) : ∀ k, k ≤ N → PG (pst hold low high k)
  | 0, _ => ⟨⟨h1, by simp [pst]; omega, by simp [pst], fun x hx => by simp [pst] at hx ⊢; omega⟩, by simp [pst]⟩
  | k + 1, hk => (pst_good hold low high h1 h2 h3 h k (by omega)).next (h k (by omega))
end Go.Proofs.Ytiejaopidkghdac
