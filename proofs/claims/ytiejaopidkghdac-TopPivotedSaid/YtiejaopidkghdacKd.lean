/- Places in a body of code, so that goals stay small; what stays and what turns in memory. -/
import Derived.Test.YtiejaopidkghdacKc
namespace Go.Lf
set_option linter.unusedSimpArgs false
set_option linter.unusedVariables false
open Go

/-! ### Places in code -/

def kid (i : Nat) : Code → Code
  | .seq a b => if i = 0 then a else b
  | .cond _ a b => if i = 0 then a else b
  | .block _ a => a
  | .loop a => a
  | .rangeFunc _ _ a b => if i = 0 then a else b
  | .scope a => a
  | _ => .skip

/-- The piece of code at a place: the way there, the last step first. -/
def sub (b : Code) : List Nat → Code
  | [] => b
  | i :: p => kid i (sub b p)

def isSeq : Code → Bool | .seq _ _ => true | _ => false
def condTmp : Code → Option Tmp | .cond (.tmp t) _ _ => some t | _ => none
def blockId : Code → Option Nat | .block id _ => some id | _ => none
def isLoop : Code → Bool | .loop _ => true | _ => false
def exitId : Code → Option Nat | .exit id => some id | _ => none
def isRet : Code → Bool | .ret => true | _ => false
def isSkip : Code → Bool | .skip => true | _ => false

section
variable {P : Program} {n : Nat} {ro : Option Nat} {Q : Exit → Fr → World → Prop} {s : Fr} {w : World} {b : Code} {p : List Nat}

theorem at_seq (h : isSeq (sub b p) = true) (hk : ∀ K : Fr → World → Prop, (∀ s w, FW P n ro (sub b (1 :: p)) Q s w → K s w) → FW P n ro (sub b (0 :: p)) (thenE K Q) s w) : FW P n ro (sub b p) Q s w := by
  simp only [sub] at hk
  revert h hk
  cases sub b p <;> intro h hk <;> first | (cases h; done) | exact fw_seq hk

theorem at_cond (t : Tmp) (bb : Bool) (h : condTmp (sub b p) = some t) (hb : s.t t = .bool bb) (h1 : bb = true → FW P n ro (sub b (0 :: p)) Q s w) (h2 : bb = false → FW P n ro (sub b (1 :: p)) Q s w) : FW P n ro (sub b p) Q s w := by
  simp only [sub] at h1 h2
  revert h h1 h2
  cases sub b p <;> intro h h1 h2 <;> try (cases h; done)
  rename_i c x y
  cases c <;> try (cases h; done)
  cases h
  exact fw_cond hb h1 h2

theorem at_true (t : Tmp) (h : condTmp (sub b p) = some t) (hb : s.t t = .bool true) (h1 : FW P n ro (sub b (0 :: p)) Q s w) : FW P n ro (sub b p) Q s w :=
  at_cond t true h hb (fun _ => h1) (fun h => by cases h)

theorem at_false (t : Tmp) (h : condTmp (sub b p) = some t) (hb : s.t t = .bool false) (h1 : FW P n ro (sub b (1 :: p)) Q s w) : FW P n ro (sub b p) Q s w :=
  at_cond t false h hb (fun h => by cases h) (fun _ => h1)

theorem at_block (id : Nat) (h : blockId (sub b p) = some id) (h1 : FW P n ro (sub b (0 :: p)) (inBlockE id Q) s w) : FW P n ro (sub b p) Q s w := by
  simp only [sub] at h1
  revert h h1
  cases sub b p <;> intro h h1 <;> try (cases h; done)
  cases h
  exact fw_block h1

theorem at_loop (h : isLoop (sub b p) = true) (I : Nat → Fr → World → Prop) (m : Nat) (h0 : I m s w)
    (h1 : ∀ m s w, I m s w → FW P n ro (sub b (0 :: p)) (thenE (fun s' w' => ∃ m', m' < m ∧ I m' s' w') Q) s w) : FW P n ro (sub b p) Q s w := by
  simp only [sub] at h1
  revert h h1
  cases sub b p <;> intro h h1 <;> first | (cases h; done) | exact fw_loop I m h0 h1

theorem at_exit (id : Nat) (h : exitId (sub b p) = some id) (h1 : Q (.exit id) s w) : FW P n ro (sub b p) Q s w := by
  revert h
  cases sub b p <;> intro h <;> try (cases h; done)
  cases h
  exact fw_exit h1

theorem at_ret (h : isRet (sub b p) = true) (h1 : Q .ret s w) : FW P n ro (sub b p) Q s w := by
  revert h
  cases sub b p <;> intro h <;> first | (cases h; done) | exact fw_ret h1

theorem at_skip (h : isSkip (sub b p) = true) (h1 : Q .normal s w) : FW P n ro (sub b p) Q s w := by
  revert h
  cases sub b p <;> intro h <;> first | (cases h; done) | exact fw_skip h1

/-- On with what follows, from a frame and a world of which only equations are known. -/
theorem on_k {c : Code} {K : Fr → World → Prop} (hK : ∀ s w, FW P n ro c Q s w → K s w) (h : ∀ s' w', s' = s → w' = w → FW P n ro c Q s' w') : K s w := hK _ _ (h s w rfl rfl)

/-- On with what follows, from a frame of which these slots are known. -/
theorem on_kf {c : Code} {K : Fr → World → Prop} (hK : ∀ s w, FW P n ro c Q s w → K s w) (l : List (Nat × Value)) (hl : ∀ p ∈ l, s.t p.1 = p.2) {D : List Deferred} (hd : s.ds = D) (h : ∀ s' : Fr, (∀ p ∈ l, s'.t p.1 = p.2) → s'.ds = D → FW P n ro c Q s' w) : K s w :=
  hK _ _ (h s hl hd)

/-- The same, standing still. -/
theorem reframe {c : Code} (l : List (Nat × Value)) (hl : ∀ p ∈ l, s.t p.1 = p.2) {D : List Deferred} (hd : s.ds = D) (h : ∀ s' : Fr, (∀ p ∈ l, s'.t p.1 = p.2) → s'.ds = D → FW P n ro c Q s' w) : FW P n ro c Q s w :=
  h s hl hd

theorem CallsV.on {f : FuncId} {args : Array Value} {R R' : Value → World → Prop} (h : CallsV P f args w R) (hr : ∀ v w', R v w' → R' v w') : CallsV P f args w R' :=
  Calls.mono h fun _ w' ⟨v, he, hR⟩ => ⟨v, he, hr v w' hR⟩

/-- A call, from its body's piece at the empty place. -/
theorem calls_at {f : FuncId} {fn : Func} {args : Array Value} {R : Value → World → Prop} (c : Code) (hf : P.funcs[f]? = some fn) (hb : fn.body = some c) (m : Nat) (hm : fn.ntmps = m) (hargs : args.size ≤ m)
    (h : ∀ s : Fr, (∀ i v, args[i]? = some v → s.t i = v) → s.ds = [] → FW P m none (sub c []) (postF P fn R) s w) : CallsV P f args w R :=
  calls_of_fw hf hb m hm hargs (h _ (fun i v hv => by simp [hv]) rfl)

theorem ret_one {fn : Func} {R : Value → World → Prop} {t : Tmp} (hr : fn.results = #[.tmp t]) (hds : s.ds = []) (h : R (s.t t) w) : postF P fn R .ret s w := by
  show leaveF P fn s R s.ds w
  rw [hds]
  exact ⟨_, by simp [resF, hr], h⟩
theorem ret_two {fn : Func} {R : Value → World → Prop} {t u : Tmp} (hr : fn.results = #[.tmp t, .tmp u]) (hds : s.ds = []) (h : R (.tuple #[s.t t, s.t u]) w) : postF P fn R .ret s w := by
  show leaveF P fn s R s.ds w
  rw [hds]
  exact ⟨_, by simp [resF, hr], h⟩
theorem ret_three {fn : Func} {R : Value → World → Prop} {t u v : Tmp} (hr : fn.results = #[.tmp t, .tmp u, .tmp v]) (hds : s.ds = []) (h : R (.tuple #[s.t t, s.t u, s.t v]) w) : postF P fn R .ret s w := by
  show leaveF P fn s R s.ds w
  rw [hds]
  exact ⟨_, by simp [resF, hr], h⟩
theorem ret_none {fn : Func} {R : Value → World → Prop} (hr : fn.results = #[]) (hds : s.ds = []) (h : R (.tuple #[]) w) : postF P fn R .ret s w := by
  show leaveF P fn s R s.ds w
  rw [hds]
  exact ⟨_, by simp [resF, hr], h⟩
theorem end_none {fn : Func} {R : Value → World → Prop} (hr : fn.results = #[]) (hds : s.ds = []) (h : R (.tuple #[]) w) : postF P fn R .normal s w := by
  show leaveF P fn s R s.ds w
  rw [hds]
  exact ⟨_, by simp [resF, hr], h⟩
theorem facts2 {f : Nat → Value} {a0 a1 : Nat} {b0 b1 : Value} (h : ∀ p ∈ [(a0, b0), (a1, b1)], f p.1 = p.2) : f a0 = b0 ∧ f a1 = b1 := ⟨h (a0, b0) (by simp), h (a1, b1) (by simp)⟩
theorem facts3 {f : Nat → Value} {a0 a1 a2 : Nat} {b0 b1 b2 : Value} (h : ∀ p ∈ [(a0, b0), (a1, b1), (a2, b2)], f p.1 = p.2) : f a0 = b0 ∧ f a1 = b1 ∧ f a2 = b2 := ⟨h (a0, b0) (by simp), h (a1, b1) (by simp), h (a2, b2) (by simp)⟩
theorem facts4 {f : Nat → Value} {a0 a1 a2 a3 : Nat} {b0 b1 b2 b3 : Value} (h : ∀ p ∈ [(a0, b0), (a1, b1), (a2, b2), (a3, b3)], f p.1 = p.2) : f a0 = b0 ∧ f a1 = b1 ∧ f a2 = b2 ∧ f a3 = b3 := ⟨h (a0, b0) (by simp), h (a1, b1) (by simp), h (a2, b2) (by simp), h (a3, b3) (by simp)⟩
theorem facts5 {f : Nat → Value} {a0 a1 a2 a3 a4 : Nat} {b0 b1 b2 b3 b4 : Value} (h : ∀ p ∈ [(a0, b0), (a1, b1), (a2, b2), (a3, b3), (a4, b4)], f p.1 = p.2) : f a0 = b0 ∧ f a1 = b1 ∧ f a2 = b2 ∧ f a3 = b3 ∧ f a4 = b4 := ⟨h (a0, b0) (by simp), h (a1, b1) (by simp), h (a2, b2) (by simp), h (a3, b3) (by simp), h (a4, b4) (by simp)⟩
theorem facts6 {f : Nat → Value} {a0 a1 a2 a3 a4 a5 : Nat} {b0 b1 b2 b3 b4 b5 : Value} (h : ∀ p ∈ [(a0, b0), (a1, b1), (a2, b2), (a3, b3), (a4, b4), (a5, b5)], f p.1 = p.2) : f a0 = b0 ∧ f a1 = b1 ∧ f a2 = b2 ∧ f a3 = b3 ∧ f a4 = b4 ∧ f a5 = b5 := ⟨h (a0, b0) (by simp), h (a1, b1) (by simp), h (a2, b2) (by simp), h (a3, b3) (by simp), h (a4, b4) (by simp), h (a5, b5) (by simp)⟩
theorem facts7 {f : Nat → Value} {a0 a1 a2 a3 a4 a5 a6 : Nat} {b0 b1 b2 b3 b4 b5 b6 : Value} (h : ∀ p ∈ [(a0, b0), (a1, b1), (a2, b2), (a3, b3), (a4, b4), (a5, b5), (a6, b6)], f p.1 = p.2) : f a0 = b0 ∧ f a1 = b1 ∧ f a2 = b2 ∧ f a3 = b3 ∧ f a4 = b4 ∧ f a5 = b5 ∧ f a6 = b6 := ⟨h (a0, b0) (by simp), h (a1, b1) (by simp), h (a2, b2) (by simp), h (a3, b3) (by simp), h (a4, b4) (by simp), h (a5, b5) (by simp), h (a6, b6) (by simp)⟩
theorem facts8 {f : Nat → Value} {a0 a1 a2 a3 a4 a5 a6 a7 : Nat} {b0 b1 b2 b3 b4 b5 b6 b7 : Value} (h : ∀ p ∈ [(a0, b0), (a1, b1), (a2, b2), (a3, b3), (a4, b4), (a5, b5), (a6, b6), (a7, b7)], f p.1 = p.2) : f a0 = b0 ∧ f a1 = b1 ∧ f a2 = b2 ∧ f a3 = b3 ∧ f a4 = b4 ∧ f a5 = b5 ∧ f a6 = b6 ∧ f a7 = b7 := ⟨h (a0, b0) (by simp), h (a1, b1) (by simp), h (a2, b2) (by simp), h (a3, b3) (by simp), h (a4, b4) (by simp), h (a5, b5) (by simp), h (a6, b6) (by simp), h (a7, b7) (by simp)⟩
theorem facts9 {f : Nat → Value} {a0 a1 a2 a3 a4 a5 a6 a7 a8 : Nat} {b0 b1 b2 b3 b4 b5 b6 b7 b8 : Value} (h : ∀ p ∈ [(a0, b0), (a1, b1), (a2, b2), (a3, b3), (a4, b4), (a5, b5), (a6, b6), (a7, b7), (a8, b8)], f p.1 = p.2) : f a0 = b0 ∧ f a1 = b1 ∧ f a2 = b2 ∧ f a3 = b3 ∧ f a4 = b4 ∧ f a5 = b5 ∧ f a6 = b6 ∧ f a7 = b7 ∧ f a8 = b8 := ⟨h (a0, b0) (by simp), h (a1, b1) (by simp), h (a2, b2) (by simp), h (a3, b3) (by simp), h (a4, b4) (by simp), h (a5, b5) (by simp), h (a6, b6) (by simp), h (a7, b7) (by simp), h (a8, b8) (by simp)⟩
theorem facts10 {f : Nat → Value} {a0 a1 a2 a3 a4 a5 a6 a7 a8 a9 : Nat} {b0 b1 b2 b3 b4 b5 b6 b7 b8 b9 : Value} (h : ∀ p ∈ [(a0, b0), (a1, b1), (a2, b2), (a3, b3), (a4, b4), (a5, b5), (a6, b6), (a7, b7), (a8, b8), (a9, b9)], f p.1 = p.2) : f a0 = b0 ∧ f a1 = b1 ∧ f a2 = b2 ∧ f a3 = b3 ∧ f a4 = b4 ∧ f a5 = b5 ∧ f a6 = b6 ∧ f a7 = b7 ∧ f a8 = b8 ∧ f a9 = b9 := ⟨h (a0, b0) (by simp), h (a1, b1) (by simp), h (a2, b2) (by simp), h (a3, b3) (by simp), h (a4, b4) (by simp), h (a5, b5) (by simp), h (a6, b6) (by simp), h (a7, b7) (by simp), h (a8, b8) (by simp), h (a9, b9) (by simp)⟩
theorem facts11 {f : Nat → Value} {a0 a1 a2 a3 a4 a5 a6 a7 a8 a9 a10 : Nat} {b0 b1 b2 b3 b4 b5 b6 b7 b8 b9 b10 : Value} (h : ∀ p ∈ [(a0, b0), (a1, b1), (a2, b2), (a3, b3), (a4, b4), (a5, b5), (a6, b6), (a7, b7), (a8, b8), (a9, b9), (a10, b10)], f p.1 = p.2) : f a0 = b0 ∧ f a1 = b1 ∧ f a2 = b2 ∧ f a3 = b3 ∧ f a4 = b4 ∧ f a5 = b5 ∧ f a6 = b6 ∧ f a7 = b7 ∧ f a8 = b8 ∧ f a9 = b9 ∧ f a10 = b10 := ⟨h (a0, b0) (by simp), h (a1, b1) (by simp), h (a2, b2) (by simp), h (a3, b3) (by simp), h (a4, b4) (by simp), h (a5, b5) (by simp), h (a6, b6) (by simp), h (a7, b7) (by simp), h (a8, b8) (by simp), h (a9, b9) (by simp), h (a10, b10) (by simp)⟩
theorem facts12 {f : Nat → Value} {a0 a1 a2 a3 a4 a5 a6 a7 a8 a9 a10 a11 : Nat} {b0 b1 b2 b3 b4 b5 b6 b7 b8 b9 b10 b11 : Value} (h : ∀ p ∈ [(a0, b0), (a1, b1), (a2, b2), (a3, b3), (a4, b4), (a5, b5), (a6, b6), (a7, b7), (a8, b8), (a9, b9), (a10, b10), (a11, b11)], f p.1 = p.2) : f a0 = b0 ∧ f a1 = b1 ∧ f a2 = b2 ∧ f a3 = b3 ∧ f a4 = b4 ∧ f a5 = b5 ∧ f a6 = b6 ∧ f a7 = b7 ∧ f a8 = b8 ∧ f a9 = b9 ∧ f a10 = b10 ∧ f a11 = b11 := ⟨h (a0, b0) (by simp), h (a1, b1) (by simp), h (a2, b2) (by simp), h (a3, b3) (by simp), h (a4, b4) (by simp), h (a5, b5) (by simp), h (a6, b6) (by simp), h (a7, b7) (by simp), h (a8, b8) (by simp), h (a9, b9) (by simp), h (a10, b10) (by simp), h (a11, b11) (by simp)⟩
theorem facts13 {f : Nat → Value} {a0 a1 a2 a3 a4 a5 a6 a7 a8 a9 a10 a11 a12 : Nat} {b0 b1 b2 b3 b4 b5 b6 b7 b8 b9 b10 b11 b12 : Value} (h : ∀ p ∈ [(a0, b0), (a1, b1), (a2, b2), (a3, b3), (a4, b4), (a5, b5), (a6, b6), (a7, b7), (a8, b8), (a9, b9), (a10, b10), (a11, b11), (a12, b12)], f p.1 = p.2) : f a0 = b0 ∧ f a1 = b1 ∧ f a2 = b2 ∧ f a3 = b3 ∧ f a4 = b4 ∧ f a5 = b5 ∧ f a6 = b6 ∧ f a7 = b7 ∧ f a8 = b8 ∧ f a9 = b9 ∧ f a10 = b10 ∧ f a11 = b11 ∧ f a12 = b12 := ⟨h (a0, b0) (by simp), h (a1, b1) (by simp), h (a2, b2) (by simp), h (a3, b3) (by simp), h (a4, b4) (by simp), h (a5, b5) (by simp), h (a6, b6) (by simp), h (a7, b7) (by simp), h (a8, b8) (by simp), h (a9, b9) (by simp), h (a10, b10) (by simp), h (a11, b11) (by simp), h (a12, b12) (by simp)⟩
theorem facts14 {f : Nat → Value} {a0 a1 a2 a3 a4 a5 a6 a7 a8 a9 a10 a11 a12 a13 : Nat} {b0 b1 b2 b3 b4 b5 b6 b7 b8 b9 b10 b11 b12 b13 : Value} (h : ∀ p ∈ [(a0, b0), (a1, b1), (a2, b2), (a3, b3), (a4, b4), (a5, b5), (a6, b6), (a7, b7), (a8, b8), (a9, b9), (a10, b10), (a11, b11), (a12, b12), (a13, b13)], f p.1 = p.2) : f a0 = b0 ∧ f a1 = b1 ∧ f a2 = b2 ∧ f a3 = b3 ∧ f a4 = b4 ∧ f a5 = b5 ∧ f a6 = b6 ∧ f a7 = b7 ∧ f a8 = b8 ∧ f a9 = b9 ∧ f a10 = b10 ∧ f a11 = b11 ∧ f a12 = b12 ∧ f a13 = b13 := ⟨h (a0, b0) (by simp), h (a1, b1) (by simp), h (a2, b2) (by simp), h (a3, b3) (by simp), h (a4, b4) (by simp), h (a5, b5) (by simp), h (a6, b6) (by simp), h (a7, b7) (by simp), h (a8, b8) (by simp), h (a9, b9) (by simp), h (a10, b10) (by simp), h (a11, b11) (by simp), h (a12, b12) (by simp), h (a13, b13) (by simp)⟩
theorem facts15 {f : Nat → Value} {a0 a1 a2 a3 a4 a5 a6 a7 a8 a9 a10 a11 a12 a13 a14 : Nat} {b0 b1 b2 b3 b4 b5 b6 b7 b8 b9 b10 b11 b12 b13 b14 : Value} (h : ∀ p ∈ [(a0, b0), (a1, b1), (a2, b2), (a3, b3), (a4, b4), (a5, b5), (a6, b6), (a7, b7), (a8, b8), (a9, b9), (a10, b10), (a11, b11), (a12, b12), (a13, b13), (a14, b14)], f p.1 = p.2) : f a0 = b0 ∧ f a1 = b1 ∧ f a2 = b2 ∧ f a3 = b3 ∧ f a4 = b4 ∧ f a5 = b5 ∧ f a6 = b6 ∧ f a7 = b7 ∧ f a8 = b8 ∧ f a9 = b9 ∧ f a10 = b10 ∧ f a11 = b11 ∧ f a12 = b12 ∧ f a13 = b13 ∧ f a14 = b14 := ⟨h (a0, b0) (by simp), h (a1, b1) (by simp), h (a2, b2) (by simp), h (a3, b3) (by simp), h (a4, b4) (by simp), h (a5, b5) (by simp), h (a6, b6) (by simp), h (a7, b7) (by simp), h (a8, b8) (by simp), h (a9, b9) (by simp), h (a10, b10) (by simp), h (a11, b11) (by simp), h (a12, b12) (by simp), h (a13, b13) (by simp), h (a14, b14) (by simp)⟩
theorem facts16 {f : Nat → Value} {a0 a1 a2 a3 a4 a5 a6 a7 a8 a9 a10 a11 a12 a13 a14 a15 : Nat} {b0 b1 b2 b3 b4 b5 b6 b7 b8 b9 b10 b11 b12 b13 b14 b15 : Value} (h : ∀ p ∈ [(a0, b0), (a1, b1), (a2, b2), (a3, b3), (a4, b4), (a5, b5), (a6, b6), (a7, b7), (a8, b8), (a9, b9), (a10, b10), (a11, b11), (a12, b12), (a13, b13), (a14, b14), (a15, b15)], f p.1 = p.2) : f a0 = b0 ∧ f a1 = b1 ∧ f a2 = b2 ∧ f a3 = b3 ∧ f a4 = b4 ∧ f a5 = b5 ∧ f a6 = b6 ∧ f a7 = b7 ∧ f a8 = b8 ∧ f a9 = b9 ∧ f a10 = b10 ∧ f a11 = b11 ∧ f a12 = b12 ∧ f a13 = b13 ∧ f a14 = b14 ∧ f a15 = b15 := ⟨h (a0, b0) (by simp), h (a1, b1) (by simp), h (a2, b2) (by simp), h (a3, b3) (by simp), h (a4, b4) (by simp), h (a5, b5) (by simp), h (a6, b6) (by simp), h (a7, b7) (by simp), h (a8, b8) (by simp), h (a9, b9) (by simp), h (a10, b10) (by simp), h (a11, b11) (by simp), h (a12, b12) (by simp), h (a13, b13) (by simp), h (a14, b14) (by simp), h (a15, b15) (by simp)⟩
theorem facts17 {f : Nat → Value} {a0 a1 a2 a3 a4 a5 a6 a7 a8 a9 a10 a11 a12 a13 a14 a15 a16 : Nat} {b0 b1 b2 b3 b4 b5 b6 b7 b8 b9 b10 b11 b12 b13 b14 b15 b16 : Value} (h : ∀ p ∈ [(a0, b0), (a1, b1), (a2, b2), (a3, b3), (a4, b4), (a5, b5), (a6, b6), (a7, b7), (a8, b8), (a9, b9), (a10, b10), (a11, b11), (a12, b12), (a13, b13), (a14, b14), (a15, b15), (a16, b16)], f p.1 = p.2) : f a0 = b0 ∧ f a1 = b1 ∧ f a2 = b2 ∧ f a3 = b3 ∧ f a4 = b4 ∧ f a5 = b5 ∧ f a6 = b6 ∧ f a7 = b7 ∧ f a8 = b8 ∧ f a9 = b9 ∧ f a10 = b10 ∧ f a11 = b11 ∧ f a12 = b12 ∧ f a13 = b13 ∧ f a14 = b14 ∧ f a15 = b15 ∧ f a16 = b16 := ⟨h (a0, b0) (by simp), h (a1, b1) (by simp), h (a2, b2) (by simp), h (a3, b3) (by simp), h (a4, b4) (by simp), h (a5, b5) (by simp), h (a6, b6) (by simp), h (a7, b7) (by simp), h (a8, b8) (by simp), h (a9, b9) (by simp), h (a10, b10) (by simp), h (a11, b11) (by simp), h (a12, b12) (by simp), h (a13, b13) (by simp), h (a14, b14) (by simp), h (a15, b15) (by simp), h (a16, b16) (by simp)⟩
theorem facts18 {f : Nat → Value} {a0 a1 a2 a3 a4 a5 a6 a7 a8 a9 a10 a11 a12 a13 a14 a15 a16 a17 : Nat} {b0 b1 b2 b3 b4 b5 b6 b7 b8 b9 b10 b11 b12 b13 b14 b15 b16 b17 : Value} (h : ∀ p ∈ [(a0, b0), (a1, b1), (a2, b2), (a3, b3), (a4, b4), (a5, b5), (a6, b6), (a7, b7), (a8, b8), (a9, b9), (a10, b10), (a11, b11), (a12, b12), (a13, b13), (a14, b14), (a15, b15), (a16, b16), (a17, b17)], f p.1 = p.2) : f a0 = b0 ∧ f a1 = b1 ∧ f a2 = b2 ∧ f a3 = b3 ∧ f a4 = b4 ∧ f a5 = b5 ∧ f a6 = b6 ∧ f a7 = b7 ∧ f a8 = b8 ∧ f a9 = b9 ∧ f a10 = b10 ∧ f a11 = b11 ∧ f a12 = b12 ∧ f a13 = b13 ∧ f a14 = b14 ∧ f a15 = b15 ∧ f a16 = b16 ∧ f a17 = b17 := ⟨h (a0, b0) (by simp), h (a1, b1) (by simp), h (a2, b2) (by simp), h (a3, b3) (by simp), h (a4, b4) (by simp), h (a5, b5) (by simp), h (a6, b6) (by simp), h (a7, b7) (by simp), h (a8, b8) (by simp), h (a9, b9) (by simp), h (a10, b10) (by simp), h (a11, b11) (by simp), h (a12, b12) (by simp), h (a13, b13) (by simp), h (a14, b14) (by simp), h (a15, b15) (by simp), h (a16, b16) (by simp), h (a17, b17) (by simp)⟩

/-- The first k operations of a region, then the rest. -/
theorem ops_take {all : Array Oper} {K : Fr → World → Prop} (k : Nat) : ∀ {l : List Oper} {s : Fr} {w : World}, (∀ K' : Fr → World → Prop, (∀ s w, opsF P ro all K (l.drop k) s w → K' s w) → opsF P ro all K' (l.take k) s w) → opsF P ro all K l s w := by
  have key : ∀ (k : Nat) (l : List Oper) (s : Fr) (w : World), opsF P ro all (fun s w => opsF P ro all K (l.drop k) s w) (l.take k) s w → opsF P ro all K l s w := by
    intro k
    induction k with
    | zero => intro l s w h; simpa [opsF] using h
    | succ k ih =>
      intro l s w h
      cases l with
      | nil => simpa [opsF] using h
      | cons o l =>
        simp only [List.take_succ_cons, List.drop_succ_cons, opsF] at h ⊢
        split
        · rename_i hw
          rw [if_pos hw] at h
          exact upF_mono (fun s' w' h' => ih l s' w' h') h
        · rename_i hw
          rw [if_neg hw] at h
          exact ih l _ _ h
  intro l s w h
  exact key k l s w (h _ fun _ _ h => h)
end

/-! ### Memory -/

/-- Of the blocks that there were, only those of S may have turned. -/
structure Frm (S : Nat → Prop) (w w' : World) : Prop where
  os : w'.os = w.os
  tape : w'.tape = w.tape
  output : w'.output = w.output
  size : w.heap.size ≤ w'.heap.size
  block : ∀ k, k < w.heap.size → ¬ S k → w'.heap[k]? = w.heap[k]?

theorem Frm.refl (S : Nat → Prop) (w : World) : Frm S w w := ⟨rfl, rfl, rfl, Nat.le_refl _, fun _ _ _ => rfl⟩
theorem Frm.trans {S S' : Nat → Prop} {a b c : World} (h : Frm S a b) (k : Frm S' b c) (hs : ∀ i, i < a.heap.size → S' i → S i) : Frm S a c :=
  ⟨k.os.trans h.os, k.tape.trans h.tape, k.output.trans h.output, Nat.le_trans h.size k.size, fun i hi hn => (k.block i (Nat.lt_of_lt_of_le hi h.size) (fun hS => hn (hs i hi hS))).trans (h.block i hi hn)⟩
theorem Frm.mono {S S' : Nat → Prop} {a b : World} (h : Frm S a b) (hs : ∀ i, i < a.heap.size → S i → S' i) : Frm S' a b :=
  ⟨h.os, h.tape, h.output, h.size, fun i hi hn => h.block i hi fun hS => hn (hs i hi hS)⟩
/-- Nothing that there was has turned. -/
abbrev New (w w' : World) : Prop := Frm (fun _ => False) w w'
theorem Frm.alloc (S : Nat → Prop) (w : World) (o : Obj) : Frm S w (w.alloc o) :=
  ⟨rfl, rfl, rfl, by simp, fun k hk _ => RowKit.Below.heap_alloc w o k hk⟩
theorem Frm.drew (S : Nat → Prop) (w : World) (d : Nat) : Frm S w { w with drawn := d } := ⟨rfl, rfl, rfl, Nat.le_refl _, fun _ _ _ => rfl⟩
theorem Frm.setCell {S : Nat → Prop} (w : World) (a : Addr) (v : Value) (h : S a.block) : Frm S w (w.setCell a v) :=
  ⟨rfl, rfl, rfl, by simp [World.setCell], fun k _ hn => RowKit.Below.heap_setCell w a v k fun e => hn (e ▸ h)⟩
theorem Frm.grown {S : Nat → Prop} {w w' : World} {row : Option Nat} (h : w.grownBy w' row) (hr : ∀ k, row = some k → S k) : Frm S w w' :=
  ⟨h.os, h.tape, h.output, h.size, fun k hk hn => h.block k hk fun e => hn (hr k e.symm)⟩
theorem Frm.below {S : Nat → Prop} {w w' : World} (h : Frm S w w') (hS : ∀ k, k < w.heap.size → ¬ S k) : RowKit.Below w.heap.size w w' :=
  ⟨h.os, h.tape, h.output, h.size, fun k hk => h.block k hk (hS k hk)⟩

/-- A block of cells that may be written. -/
def Blk (w : World) (b : Nat) (c : Array Value) (T : TypeId) : Prop := w.heap[b]? = some (.cells c T (0, 0))

theorem Blk.lt {w : World} {b : Nat} {c : Array Value} {T : TypeId} (h : Blk w b c T) : b < w.heap.size := (Array.getElem?_eq_some_iff.1 h).1
theorem Blk.cell {w : World} {b : Nat} {c : Array Value} {T : TypeId} (h : Blk w b c T) (i : Nat) : w.cell? ⟨b, i, none⟩ = c[i]? := by
  have h' : w.heap[b]? = _ := h
  simp [World.cell?, h']
theorem Blk.frozen {w : World} {b : Nat} {c : Array Value} {T : TypeId} (h : Blk w b c T) (i : Nat) : w.frozen? ⟨b, i, none⟩ = false := by
  have h' : w.heap[b]? = _ := h
  simp [World.frozen?, h']
theorem Blk.set {w : World} {b : Nat} {c : Array Value} {T : TypeId} (h : Blk w b c T) (i : Nat) (v : Value) : Blk (w.setCell ⟨b, i, none⟩ v) b (c.setIfInBounds i v) T := by
  have h' : w.heap[b]? = _ := h
  simp [Blk, World.setCell, Array.getElem?_modify, h']
theorem Blk.frm {S : Nat → Prop} {w w' : World} {b : Nat} {c : Array Value} {T : TypeId} (h : Blk w b c T) (hf : Frm S w w') (hn : ¬ S b) : Blk w' b c T :=
  (hf.block b h.lt hn).trans h
theorem Blk.new (w : World) (c : Array Value) (T : TypeId) : Blk (w.alloc (.cells c T)) w.heap.size c T := World.alloc_heap_new w _

theorem cell_heap {w w1 : World} (h : w1.heap = w.heap) (a : Addr) : w1.cell? a = w.cell? a := by simp [World.cell?, h]
theorem frozen_heap {w w1 : World} (h : w1.heap = w.heap) (a : Addr) : w1.frozen? a = w.frozen? a := by simp [World.frozen?, h]

section
variable {P : Program} {n : Nat} {Q : Exit → Fr → World → Prop} {s : Fr} {w : World}

theorem draw_still {id : Nat} {l : List Oper} (hm : P.follows .mixedOrders = true) (hB : Region.lexB .any l.toArray = true) (hd : dstsOk n l.toArray = true)
    (h : ∀ w1 : World, w1.heap = w.heap → New w w1 → stillsF P l.toArray w1 (fun s' => Q .normal s' w1) l s) : FW P n none (.region id l.toArray true) Q s w :=
  fw_region_still hm hB hd (h _ rfl (Frm.drew _ _ _))

theorem draw_tail {id : Nat} {l : List Oper} (k : Nat) (hm : P.follows .mixedOrders = true) (hB : Region.lexTailB .any l.toArray k = true) (hd : dstsOk n l.toArray = true)
    (h : ∀ w1 : World, w1.heap = w.heap → New w w1 → stillsF P l.toArray w1 (fun s' => opsP P l.toArray (Q .normal) (l.drop k) s' w1) (l.take k) s) : FW P n none (.region id l.toArray true) Q s w :=
  fw_region_tail k hm hB hd (h _ rfl (Frm.drew _ _ _))
end
end Go.Lf
