/- What requests are in memory; the small functions of package flight. -/
import Derived.Test.YtiejaopidkghdaaProg
import Derived.Test.YtiejaopidkghdaaKe
import Derived.WalkSpells
import Derived.WalkLawsBesides
import Derived.BigQuiet
import Derived.Deep.QuietTactic
import Derived.Outline
import Derived.Lib.Hide
namespace Go.Proofs.Ytiejaopidkghdaa
set_option linter.unusedSimpArgs false
set_option linter.unusedVariables false
open Go.RowKit Go.Lf

/-- A request. -/
structure Rq where
  id : Int
  to : Int
  h : Int
  tm : Int
  op : Bool

def Rq.enc (r : Rq) : List Value := [.int .i64 r.id, .int .i64 r.to, .int .i64 r.h, .int .i64 r.tm, .bool r.op]
theorem Rq.enc_len (r : Rq) : r.enc.length = 5 := rfl
def cellsOf (l : List Rq) : List Value := l.flatMap Rq.enc
theorem cellsOf_len (l : List Rq) : (cellsOf l).length = l.length * 5 := flat_length Rq.enc 5 Rq.enc_len l
theorem cellsOf_get (l : List Rq) (i j : Nat) (r : Rq) (hr : l[i]? = some r) (hj : j < 5) : (cellsOf l)[i * 5 + j]? = (r.enc)[j]? := by
  rw [cellsOf, flat_get Rq.enc 5 Rq.enc_len l i j hj, hr]; rfl

theorem none_any (b : Nat) (m : Option Nat) (w : World) (hm : w.cell? ⟨b, 2, none⟩ = some (.map m)) :
    CallsV Try.prog 17 #[.pointer (some ⟨b, 0, none⟩)] w fun v w' => v = .bool m.isNone ∧ w = w' := by
  have he : ∀ (w : World) (r : Option Nat), (binOp .eql 47 (.map r) (.map none)).run Try.prog w = .ok (.bool r.isNone) w := fun w r => run_eql_map_nil w _ _ _ r Try.underlying47
  go_enter Try.func17, Try.ntmps17
  go_wp2
  go_ret
  exact ⟨_, rfl, rfl, rfl⟩

/-- A flight in memory: its block, its row, its map. -/
structure Fl (w : World) (fb mb : Nat) (N : Int) (lv : Value) (l : List Rq) : Prop where
  blk : Blk w fb #[.int .i64 N, lv, .map (some mb)] 49
  row : Row w 31 5 lv l.length (cellsOf l)

theorem at_no (fb mb : Nat) (N : Int) (lv : Value) (l : List Rq) (id : Int) (w : World) (h : Fl w fb mb N lv l) (hid : id < 1 ∨ (l.length : Int) < id) :
    CallsV Try.prog 18 #[.pointer (some ⟨fb, 0, none⟩), .int .i64 id] w fun v w' => v = .pointer none ∧ w = w' := by
  have h1 : w.cell? ⟨fb, 1, none⟩ = some lv := h.blk.cell 1
  have h2 : w.cell? ⟨fb, 2, none⟩ = some (.map (some mb)) := h.blk.cell 2
  have hn := none_any fb (some mb) w h2
  obtain ⟨ad, cap, rfl⟩ : ∃ ad cap, lv = .slice ad l.length cap := by
    rcases h.row.val with ⟨h, h', _⟩ | ⟨g, cap, h, _⟩
    · exact ⟨none, 0, by rw [h, h']⟩
    · exact ⟨_, cap, h⟩
  clear h
  by_cases hlt : id < 1
  · go_enter Try.func18, Try.ntmps18
    go_wp2_with (go_at_call 17; refine hn.mono ?_; rintro e w' ⟨v, rfl, rfl, rfl⟩)
    go_ret
    exact ⟨_, rfl, rfl, rfl⟩
  · have hgt : (l.length : Int) < id := by omega
    go_enter Try.func18, Try.ntmps18
    go_wp2_with (go_at_call 17; refine hn.mono ?_; rintro e w' ⟨v, rfl, rfl, rfl⟩)
    go_ret
    exact ⟨_, rfl, rfl, rfl⟩

theorem at_yes (fb mb : Nat) (N : Int) (g cap : Nat) (l : List Rq) (id : Int) (i : Nat) (w : World) (h : Fl w fb mb N (.slice (some ⟨g, 0, none⟩) l.length cap) l) (hid : id = (i : Int) + 1) (hi : i < l.length) :
    CallsV Try.prog 18 #[.pointer (some ⟨fb, 0, none⟩), .int .i64 id] w fun v w' => v = .pointer (some ⟨g, i * 5, none⟩) ∧ w = w' := by
  have h1 : w.cell? ⟨fb, 1, none⟩ = some (.slice (some ⟨g, 0, none⟩) l.length cap) := h.blk.cell 1
  have h2 : w.cell? ⟨fb, 2, none⟩ = some (.map (some mb)) := h.blk.cell 2
  have hn := none_any fb (some mb) w h2
  have hcap : l.length ≤ cap ∧ cap ≤ 9223372036854775807 := by
    rcases h.row.val with ⟨h, _⟩ | ⟨g, cap, h, h3, h4⟩
    · cases h
    · cases h; unfold maxLen at h4; exact ⟨h3, h4⟩
  obtain ⟨hc1, hc2⟩ := hcap
  clear h
  subst hid
  go_enter Try.func18, Try.ntmps18
  go_wp2_with (go_at_call 17; refine hn.mono ?_; rintro e w' ⟨v, rfl, rfl, rfl⟩)
  go_ret
  exact ⟨_, rfl, rfl, rfl⟩

/-- A row that has an element is no nil slice. -/
theorem Fl.notnil {w : World} {fb mb : Nat} {N : Int} {lv : Value} {l : List Rq} (h : Fl w fb mb N lv l) (hl : 0 < l.length) : ∃ g cap, lv = .slice (some ⟨g, 0, none⟩) l.length cap := by
  rcases h.row.val with ⟨_, h0, _⟩ | ⟨g, cap, hv, _⟩
  · omega
  · exact ⟨g, cap, hv⟩

theorem Fl.cells {w : World} {fb mb : Nat} {N : Int} {g cap : Nat} {l : List Rq} (h : Fl w fb mb N (.slice (some ⟨g, 0, none⟩) l.length cap) l) {i : Nat} {r : Rq} (hr : l[i]? = some r) :
    w.cell? ⟨g, i * 5, none⟩ = some (.int .i64 r.id) ∧ w.cell? ⟨g, i * 5 + 1, none⟩ = some (.int .i64 r.to) ∧ w.cell? ⟨g, i * 5 + 2, none⟩ = some (.int .i64 r.h) ∧ w.cell? ⟨g, i * 5 + 3, none⟩ = some (.int .i64 r.tm) ∧ w.cell? ⟨g, i * 5 + 4, none⟩ = some (.bool r.op) :=
  ⟨h.row.cell (cellsOf_get l i 0 r hr (by decide)), h.row.cell (cellsOf_get l i 1 r hr (by decide)), h.row.cell (cellsOf_get l i 2 r hr (by decide)), h.row.cell (cellsOf_get l i 3 r hr (by decide)), h.row.cell (cellsOf_get l i 4 r hr (by decide))⟩

theorem is_no (fb mb : Nat) (N : Int) (lv : Value) (l : List Rq) (id to : Int) (w : World) (h : Fl w fb mb N lv l) (hid : id < 1 ∨ (l.length : Int) < id) :
    CallsV Try.prog 12 #[.pointer (some ⟨fb, 0, none⟩), .int .i64 id, .int .i64 to] w fun v w' => v = .int .i64 0 ∧ w = w' := by
  have hn := at_no fb mb N lv l id w h hid
  clear h hid
  go_enter Try.func12, Try.ntmps12
  go_wp2_with (go_at_call 18; refine hn.mono ?_; rintro e w' ⟨v, rfl, rfl, rfl⟩)
  go_ret
  exact ⟨_, rfl, rfl, rfl⟩

/-- What a number is to a provider. -/
def isOf (r : Rq) (to : Int) : Int := if r.to = to then (if r.op = true then 1 else 2) else 0

theorem is_yes (fb mb : Nat) (N : Int) (lv : Value) (l : List Rq) (id to : Int) (i : Nat) (r : Rq) (w : World) (h : Fl w fb mb N lv l) (hid : id = (i : Int) + 1) (hr : l[i]? = some r) :
    CallsV Try.prog 12 #[.pointer (some ⟨fb, 0, none⟩), .int .i64 id, .int .i64 to] w fun v w' => v = .int .i64 (isOf r to) ∧ w = w' := by
  have hi : i < l.length := (List.getElem?_eq_some_iff.1 hr).1
  obtain ⟨g, cap, rfl⟩ := h.notnil (by omega)
  have hn := at_yes fb mb N g cap l id i w h hid hi
  obtain ⟨_, c1, _, _, c4⟩ := h.cells hr
  clear h hid hr hi
  by_cases h1 : r.to = to
  · have h2 : (r.to != to) = false := by simp [h1]
    rcases h3 : r.op with _ | _
    · rw [h3] at c4
      have hres : isOf r to = 2 := by simp [isOf, h1, h3]
      have hres := Lib.hid hres
      clear h3 h1
      go_enter Try.func12, Try.ntmps12
      go_wp2_with (go_at_call 18; refine hn.mono ?_; rintro e w' ⟨v, rfl, rfl, rfl⟩)
      go_ret
      exact ⟨_, rfl, by rw [hres.out]; rfl, rfl⟩
    · rw [h3] at c4
      have hres : isOf r to = 1 := by simp [isOf, h1, h3]
      have hres := Lib.hid hres
      clear h3 h1
      go_enter Try.func12, Try.ntmps12
      go_wp2_with (go_at_call 18; refine hn.mono ?_; rintro e w' ⟨v, rfl, rfl, rfl⟩)
      go_ret
      exact ⟨_, rfl, by rw [hres.out]; rfl, rfl⟩
  · have h2 : (r.to != to) = true := by simp [h1]
    have hres : isOf r to = 0 := by simp [isOf, h1]
    have hres := Lib.hid hres
    clear h1
    go_enter Try.func12, Try.ntmps12
    go_wp2_with (go_at_call 18; refine hn.mono ?_; rintro e w' ⟨v, rfl, rfl, rfl⟩)
    go_ret
    exact ⟨_, rfl, by rw [hres.out]; rfl, rfl⟩

theorem Fl.frm {S : Nat → Prop} {w w' : World} {fb mb : Nat} {N : Int} {lv : Value} {l : List Rq} (h : Fl w fb mb N lv l) (hf : Frm S w w') (h1 : ¬ S fb) (h2 : ∀ k, lv.ownBlock = some k → ¬ S k) : Fl w' fb mb N lv l :=
  ⟨h.blk.frm hf h1, h.row.frm hf h2⟩
theorem Fl.new {w w' : World} {fb mb : Nat} {N : Int} {lv : Value} {l : List Rq} (h : Fl w fb mb N lv l) (hf : New w w') : Fl w' fb mb N lv l := h.frm hf (fun h => h) (fun _ _ h => h)

theorem get_no (fb mb : Nat) (N : Int) (lv : Value) (l : List Rq) (nr : Int) (w : World) (h : Fl w fb mb N lv l) (hid : nr < 1 ∨ (l.length : Int) < nr) :
    CallsV Try.prog 16 #[.pointer (some ⟨fb, 0, none⟩), .int .i64 nr] w fun v w' => v = .tuple #[.agg #[.int .i64 0, .int .i64 0, .int .i64 0, .int .i64 0, .bool false], .bool false] ∧ New w w' := by
  have h' := h.new (Frm.alloc _ w (.cells #[.int .i64 0, .int .i64 0, .int .i64 0, .int .i64 0, .bool false] 31))
  have hn := at_no fb mb N lv l nr _ h' hid
  clear h h' hid
  go_enter Try.func16, Try.ntmps16
  go_wp2_with (go_at_call 18; refine hn.mono ?_; rintro e w' ⟨v, rfl, rfl, rfl⟩)
  exact bodyPost_ret (v := .tuple #[.agg #[.int .i64 0, .int .i64 0, .int .i64 0, .int .i64 0, .bool false], .bool false]) (by simp [results, Try.results16, go_sem]) rfl ⟨_, rfl, rfl, Frm.alloc _ _ _⟩

def Rq.agg (r : Rq) : Value := .agg #[.int .i64 r.id, .int .i64 r.to, .int .i64 r.h, .int .i64 r.tm, .bool r.op]

theorem get_yes (fb mb : Nat) (N : Int) (lv : Value) (l : List Rq) (nr : Int) (i : Nat) (r : Rq) (w : World) (h : Fl w fb mb N lv l) (hid : nr = (i : Int) + 1) (hr : l[i]? = some r) :
    CallsV Try.prog 16 #[.pointer (some ⟨fb, 0, none⟩), .int .i64 nr] w fun v w' => v = .tuple #[r.agg, .bool true] ∧ New w w' := by
  have hi : i < l.length := (List.getElem?_eq_some_iff.1 hr).1
  obtain ⟨g, cap, rfl⟩ := h.notnil (by omega)
  have h' := h.new (Frm.alloc _ w (.cells #[.int .i64 0, .int .i64 0, .int .i64 0, .int .i64 0, .bool false] 31))
  have hn := at_yes fb mb N g cap l nr i _ h' hid hi
  obtain ⟨c0, c1, c2, c3, c4⟩ := h'.cells hr
  have hg : g < w.heap.size := h.row.lt g rfl
  clear h h' hid hr hi
  go_enter Try.func16, Try.ntmps16
  go_wp2_with (go_at_call 18; refine hn.mono ?_; rintro e w' ⟨v, rfl, rfl, rfl⟩)
  exact bodyPost_ret (v := .tuple #[r.agg, .bool true]) (by simp [results, Try.results16, go_sem, Rq.agg]) rfl ⟨_, rfl, rfl, Frm.alloc _ _ _⟩

/-- Which requests a walk asks for. -/
def askAll (_ : Int) (_ : Rq) : Bool := true
def askHas (to : Int) (r : Rq) : Bool := to == r.to
def askWaits (to : Int) (r : Rq) : Bool := r.op && (to == -1 || askHas to r)

theorem all_any (to : Int) (r : Rq) (w : World) : CallsV Try.prog 20 #[.int .i64 to, r.agg] w fun v w' => v = .bool (askAll to r) ∧ New w w' := by
  unfold Rq.agg
  go_enter Try.func20, Try.ntmps20
  go_wp2
  go_ret
  exact ⟨_, rfl, rfl, Frm.alloc _ _ _⟩

theorem has_any (to : Int) (r : Rq) (w : World) : CallsV Try.prog 22 #[.int .i64 to, r.agg] w fun v w' => v = .bool (askHas to r) ∧ New w w' := by
  unfold Rq.agg
  go_enter Try.func22, Try.ntmps22
  go_wp2
  go_ret
  exact ⟨_, rfl, rfl, Frm.alloc _ _ _⟩

theorem waits_any (to : Int) (r : Rq) (w : World) : CallsV Try.prog 21 #[.int .i64 to, r.agg] w fun v w' => v = .bool (askWaits to r) ∧ New w w' := by
  obtain ⟨a, b, c, d, o⟩ := r
  cases o
  · have hres0 : askWaits to ⟨a, b, c, d, false⟩ = false := by simp [askWaits]
    have hres := Lib.hid hres0
    clear hres0
    unfold Rq.agg
    go_enter Try.func21, Try.ntmps21
    go_wp2_with fail
    go_ret
    exact ⟨_, rfl, by rw [hres.out]; rfl, Frm.alloc _ _ _⟩
  · by_cases ht : to = -1
    · have hres0 : askWaits to ⟨a, b, c, d, true⟩ = true := by simp [askWaits, ht]
      have hres := Lib.hid hres0
      have ht' : (to == -1) = true := by simp [ht]
      clear ht hres0
      unfold Rq.agg
      go_enter Try.func21, Try.ntmps21
      go_wp2_with fail
      go_ret
      exact ⟨_, rfl, by rw [hres.out]; rfl, Frm.alloc _ _ _⟩
    · have hres0 : askWaits to ⟨a, b, c, d, true⟩ = askHas to ⟨a, b, c, d, true⟩ := by simp [askWaits, ht]
      have hres := Lib.hid hres0
      have ht' : (to == -1) = false := by simp [ht]
      have hh := fun w => has_any to ⟨a, b, c, d, true⟩ w
      clear ht hres0
      unfold Rq.agg at *
      go_enter Try.func21, Try.ntmps21
      go_wp2_with (go_at_call 22; refine (hh _).mono ?_; rintro e w' ⟨v, rfl, rfl, hw⟩)
      go_ret
      exact ⟨_, rfl, by rw [hres.out]; rfl, (Frm.alloc _ _ _).trans hw (fun _ _ h => h)⟩
end Go.Proofs.Ytiejaopidkghdaa
