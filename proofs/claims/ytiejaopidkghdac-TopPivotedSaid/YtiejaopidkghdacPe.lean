/- Library functions over slices of integers and of tries. -/
import Derived.Test.YtiejaopidkghdacPd
namespace Go.Proofs.Ytiejaopidkghdac
set_option linter.unusedSimpArgs false
set_option linter.unusedVariables false
open Go.RowKit Go.Lf

/-- A try. -/
structure Tr where
  fr : Int
  to : Int
  held : Bool
def Tr.enc (r : Tr) : List Value := [.int .i64 r.fr, .int .i64 r.to, .bool r.held]
theorem Tr.enc_len (r : Tr) : r.enc.length = 3 := rfl
def trs (l : List Tr) : List Value := l.flatMap Tr.enc
theorem trs_len (l : List Tr) : (trs l).length = l.length * 3 := flat_length Tr.enc 3 Tr.enc_len l
theorem trs_get (l : List Tr) (i j : Nat) (r : Tr) (hr : l[i]? = some r) (hj : j < 3) : (trs l)[i * 3 + j]? = (r.enc)[j]? := by
  rw [trs, flat_get Tr.enc 3 Tr.enc_len l i j hj, hr]; rfl

noncomputable def body8 : Code := Try.f8.body.getD .skip
theorem call8 (args : Array Value) (w : World) : (callFunc 8 args).run Try.prog w = .ok (.enter 8 args) w := callFunc_enter Try.func8 (by kernel_rfl) (by kernel_rfl) args w
theorem clone_any (u : Value) (l : List Int) (w : World) (hr : Row w 3 1 u l.length (l.map (Value.int .i64))) (hl : l.length ≤ 100000) :
    CallsV Try.prog 8 #[u] w fun v w' => Row w' 3 1 v l.length (l.map (Value.int .i64)) ∧ New w w' ∧ ∀ k, v.ownBlock = some k → w.heap.size ≤ k := by
  rcases hr.val with ⟨rfl, h', _⟩ | ⟨g, cp, rfl, hcp, hcm⟩
  · have hq := fun w => Lib.run_eql_slice_nil (P := Try.prog) w 30 3 none 0 0 0 0 Try.underlying30
    refine calls_at body8 Try.func8 rfl 8 rfl (by simp) fun s hs hds => ?_
    have h0 := hs 0 _ rfl
    clear hs
    refine at_seq rfl fun K1 hK1 => ?_
    (conv => arg 4; whnf)
    refine fw_region_lit rfl ?_
    simp [go_sem, opsF, opF, upF, Region.wanted, Fr.ev, Fr.put, thenE, inBlockE, Oper.semAt, yieldF, h0, hq]
    refine on_kf hK1 [(0, _)] (fa_cons h0 fa_nil) hds ?_
    clear hK1 h0 hds; intro s hs hds
    have h0 : s.t 0 = _ := hs (0, _) (List.mem_singleton_self _); clear hs
    refine at_seq rfl fun K2 hK2 => ?_
    refine at_seq rfl fun K3 hK3 => ?_
    (conv => arg 4; whnf)
    refine fw_region_lit rfl ?_
    simp [go_sem, opsF, opF, upF, Region.wanted, Fr.ev, Fr.put, thenE, inBlockE, Oper.semAt, yieldF, h0, hq]
    refine on_kf hK3 [(0, _), (4, _)] (fa_cons h0 (fa_cons (by simp [h0, hq] <;> rfl) fa_nil)) hds ?_
    clear hK3 h0 hds; intro s hs hds
    obtain ⟨h0, h4⟩ := facts2 hs; clear hs
    refine at_true 4 rfl h4 ?_
    refine at_seq rfl fun K4 hK4 => ?_
    (conv => arg 4; whnf)
    refine fw_region_lit rfl ?_
    simp [go_sem, opsF, opF, upF, Region.wanted, Fr.ev, Fr.put, thenE, inBlockE, Oper.semAt, yieldF, h0, h4]
    refine on_kf hK4 [(2, _)] (fa_cons (by simp [h0, h4] <;> rfl) fa_nil) hds ?_
    clear hK4 h0 h4 hds; intro s hs hds
    have h2 : s.t 2 = _ := hs (2, _) (List.mem_singleton_self _); clear hs
    refine at_ret rfl ?_
    try simp only [inBlockE, thenE]
    refine ret_one rfl hds ?_
    rw [h2]
    exact ⟨hr, Frm.refl _ _, fun k hk => by cases hk⟩
  · have hq := fun w => Lib.run_eql_slice_nil (P := Try.prog) w 30 3 (some ⟨g, 0, none⟩) l.length cp 0 0 Try.underlying30
    have hA := Frm.alloc (fun _ => False) w (.cells #[] 3)
    have hrA := hr.frm hA (fun _ _ h => h)
    have hmade : Row (w.alloc (.cells #[] 3)) 3 1 (.slice (some ⟨w.heap.size, 0, none⟩) 0 0) 0 [] := World.ownsRow_made (base := 0) (e := 3) (size := 1) w #[] 0 (Nat.zero_le _) (by unfold maxLen; omega) rfl
    obtain ⟨v', w1, hap, hrow1, hfr1, _, hown1⟩ := Row.append hmade (P := Try.prog) (t := 30) (ty := 30) Try.underlying30 info3 rfl (by decide) ⟨g, 0, none⟩ l.length cp (l.map (Value.int .i64)) (by simp)
      (World.ownsRow.cells hrA (g := g) rfl) (by intro u hu; obtain ⟨x, _, rfl⟩ := List.mem_map.1 hu; rfl) (by unfold maxLen; omega) (by omega)
    refine calls_at body8 Try.func8 rfl 8 rfl (by simp) fun s hs hds => ?_
    have h0 := hs 0 _ rfl
    clear hs
    refine at_seq rfl fun K5 hK5 => ?_
    (conv => arg 4; whnf)
    refine fw_region_lit rfl ?_
    simp [go_sem, opsF, opF, upF, Region.wanted, Fr.ev, Fr.put, thenE, inBlockE, Oper.semAt, yieldF, h0, hq]
    refine on_kf hK5 [(0, _)] (fa_cons h0 fa_nil) hds ?_
    clear hK5 h0 hds; intro s hs hds
    have h0 : s.t 0 = _ := hs (0, _) (List.mem_singleton_self _); clear hs
    refine at_seq rfl fun K6 hK6 => ?_
    refine at_seq rfl fun K7 hK7 => ?_
    (conv => arg 4; whnf)
    refine fw_region_lit rfl ?_
    simp [go_sem, opsF, opF, upF, Region.wanted, Fr.ev, Fr.put, thenE, inBlockE, Oper.semAt, yieldF, h0, hq]
    refine on_kf hK7 [(0, _), (4, _)] (fa_cons h0 (fa_cons (by simp [h0, hq] <;> rfl) fa_nil)) hds ?_
    clear hK7 h0 hds; intro s hs hds
    obtain ⟨h0, h4⟩ := facts2 hs; clear hs
    refine at_false 4 rfl h4 ?_
    refine at_skip rfl ?_
    try simp only [inBlockE, thenE]
    refine hK6 _ _ ?_
    clear hK6
    refine at_seq rfl fun K8 hK8 => ?_
    (conv => arg 4; whnf)
    refine fw_region_lit rfl ?_
    refine ops_take 2 fun KO hKO => ?_
    simp [go_sem, opsF, opF, upF, Region.wanted, Fr.ev, Fr.put, thenE, inBlockE, Oper.semAt, yieldF, h0, h4]
    refine hKO _ _ ?_
    clear hKO
    refine ops_append rfl rfl rfl (v := .slice (some ⟨w.heap.size, 0, none⟩) 0 0) (u := .slice (some ⟨g, 0, none⟩) l.length cp) (by simp [Fr.ev]) (by simp [Fr.ev]) hap ?_
    try simp [go_sem, opsF, opF, upF, Region.wanted, Fr.ev, Fr.put, thenE, inBlockE, Oper.semAt, yieldF, h0, h4]
    refine on_kf hK8 [(2, _)] (fa_cons (by simp [h0, h4] <;> rfl) fa_nil) hds ?_
    clear hK8 h0 h4 hds; intro s hs hds
    have h2 : s.t 2 = _ := hs (2, _) (List.mem_singleton_self _); clear hs
    refine at_ret rfl ?_
    try simp only [inBlockE, thenE]
    refine ret_one rfl hds ?_
    rw [h2]
    simp only [Nat.zero_add, List.nil_append] at hrow1
    refine ⟨hrow1, hA.trans hfr1 (fun i hi h => by cases h; exact absurd hi (by simp)), fun k hk => ?_⟩
    rcases hown1 k hk with h | h
    · cases h; exact Nat.le_refl _
    · exact by have := hA.size; omega

def EqI13 (w0 : World) (n : Nat) (u v : Value) (m : Nat) (s : Fr) (w : World) : Prop :=
  ∃ i : Nat, i ≤ n ∧ m = n - i ∧ s.ds = [] ∧ s.t 0 = u ∧ s.t 1 = v ∧ s.t 12 = .int .i64 (n : Int) ∧ s.t 13 = .int .i64 (i : Int) ∧ New w0 w

noncomputable def body13 : Code := Try.f13.body.getD .skip
theorem call13 (args : Array Value) (w : World) : (callFunc 13 args).run Try.prog w = .ok (.enter 13 args) w := callFunc_enter Try.func13 (by kernel_rfl) (by kernel_rfl) args w
theorem equal_any (u v : Value) (l : List Int) (w : World) (hu : Row w 3 1 u l.length (l.map (Value.int .i64))) (hv : Row w 3 1 v l.length (l.map (Value.int .i64))) :
    CallsV Try.prog 13 #[u, v] w fun b w' => b = .bool true ∧ New w w' := by
  obtain ⟨ad, cp, hlu, had⟩ : ∃ ad cp, u = .slice ad l.length cp ∧ (0 < l.length → ∃ g, ad = some ⟨g, 0, none⟩) := by
    rcases hu.val with ⟨h, h', _⟩ | ⟨g, cap, h, _⟩
    · exact ⟨none, 0, by rw [h, h'], fun h => by omega⟩
    · exact ⟨_, cap, h, fun _ => ⟨g, rfl⟩⟩
  obtain ⟨bd, cq, hlv, hbd⟩ : ∃ ad cp, v = .slice ad l.length cp ∧ (0 < l.length → ∃ g, ad = some ⟨g, 0, none⟩) := by
    rcases hv.val with ⟨h, h', _⟩ | ⟨g, cap, h, _⟩
    · exact ⟨none, 0, by rw [h, h'], fun h => by omega⟩
    · exact ⟨_, cap, h, fun _ => ⟨g, rfl⟩⟩
  have hlen : l.length ≤ 9223372036854775807 := by
    rcases hu.val with ⟨_, h', _⟩ | ⟨g, cap, _, h, h'⟩
    · omega
    · unfold maxLen at h'; omega
  subst hlu hlv
  refine calls_at body13 Try.func13 rfl 26 rfl (by simp) fun s hs hds => ?_
  have h0 := hs 0 _ rfl
  have h1 := hs 1 _ rfl
  clear hs
  refine at_seq rfl fun K9 hK9 => ?_
  (conv => arg 4; whnf)
  refine fw_region_lit rfl ?_
  simp [go_sem, opsF, opF, upF, Region.wanted, Fr.ev, Fr.put, thenE, inBlockE, Oper.semAt, yieldF, h0, h1]
  refine on_kf hK9 [(0, _), (1, _)] (fa_cons h0 (fa_cons h1 fa_nil)) hds ?_
  clear hK9 h0 h1 hds; intro s hs hds
  obtain ⟨h0, h1⟩ := facts2 hs; clear hs
  refine at_seq rfl fun K10 hK10 => ?_
  refine at_seq rfl fun K11 hK11 => ?_
  (conv => arg 4; whnf)
  refine fw_region_lit rfl ?_
  simp [go_sem, opsF, opF, upF, Region.wanted, Fr.ev, Fr.put, thenE, inBlockE, Oper.semAt, yieldF, h0, h1]
  refine on_kf hK11 [(0, _), (1, _), (10, _)] (fa_cons h0 (fa_cons h1 (fa_cons (by simp [h0, h1] <;> rfl) fa_nil))) hds ?_
  clear hK11 h0 h1 hds; intro s hs hds
  obtain ⟨h0, h1, h10⟩ := facts3 hs; clear hs
  refine at_false 10 rfl h10 ?_
  refine at_skip rfl ?_
  try simp only [inBlockE, thenE]
  refine hK10 _ _ ?_
  clear hK10
  refine at_seq rfl fun K12 hK12 => ?_
  refine at_seq rfl fun K13 hK13 => ?_
  (conv => arg 4; whnf)
  refine fw_region_lit rfl ?_
  simp [go_sem, opsF, opF, upF, Region.wanted, Fr.ev, Fr.put, thenE, inBlockE, Oper.semAt, yieldF, h0, h1, h10]
  refine on_kf hK13 [(0, _), (1, _), (12, _), (13, _)] (fa_cons h0 (fa_cons h1 (fa_cons (by simp [h0, h1, h10] <;> rfl) (fa_cons (by simp [h0, h1, h10] <;> rfl) fa_nil)))) hds ?_
  clear hK13 h0 h1 h10 hds; intro s hs hds
  obtain ⟨h0, h1, h12, h13⟩ := facts4 hs; clear hs
  refine at_block 0 rfl ?_
  refine at_loop rfl (EqI13 w l.length (.slice ad l.length cp) (.slice bd l.length cq)) l.length ⟨0, by omega, by omega, hds, h0, h1, h12, h13, Frm.refl _ _⟩ ?_
  clear h0 h1 h12 h13 hds
  clear s
  rintro m s w1 ⟨i, hi, rfl, hds, h0, h1, h12, h13, hw⟩
  by_cases hlt : i < l.length
  · have d0 : (i : Int) < (l.length : Int) := by omega
    refine at_seq rfl fun K14 hK14 => ?_
    (conv => arg 4; whnf)
    refine fw_region_lit rfl ?_
    simp [go_sem, opsF, opF, upF, Region.wanted, Fr.ev, Fr.put, thenE, inBlockE, Oper.semAt, yieldF, h0, h1, h12, h13, d0]
    refine on_kf hK14 [(0, _), (1, _), (12, _), (13, _), (14, _)] (fa_cons h0 (fa_cons h1 (fa_cons h12 (fa_cons h13 (fa_cons (by simp [h0, h1, h12, h13, d0] <;> rfl) fa_nil))))) hds ?_
    clear hK14 h0 h1 h12 h13 hds; intro s hs hds
    obtain ⟨h0, h1, h12, h13, h14⟩ := facts5 hs; clear hs
    refine at_seq rfl fun K15 hK15 => ?_
    refine at_true 14 rfl h14 ?_
    refine at_skip rfl ?_
    try simp only [inBlockE, thenE]
    refine hK15 _ _ ?_
    clear hK15
    refine at_seq rfl fun K16 hK16 => ?_
    refine at_block 1 rfl ?_
    refine at_seq rfl fun K17 hK17 => ?_
    (conv => arg 4; whnf)
    refine fw_region_lit rfl ?_
    simp [go_sem, opsF, opF, upF, Region.wanted, Fr.ev, Fr.put, thenE, inBlockE, Oper.semAt, yieldF, h0, h1, h12, h13, h14]
    refine on_kf hK17 [(0, _), (1, _), (5, _), (12, _), (13, _)] (fa_cons h0 (fa_cons h1 (fa_cons (by simp [h0, h1, h12, h13, h14] <;> rfl) (fa_cons h12 (fa_cons h13 fa_nil))))) hds ?_
    clear hK17 h0 h1 h12 h13 h14 hds; intro s hs hds
    obtain ⟨h0, h1, h5, h12, h13⟩ := facts5 hs; clear hs
    refine at_seq rfl fun K18 hK18 => ?_
    obtain ⟨g, rfl⟩ := had (by omega)
    obtain ⟨g2, rfl⟩ := hbd (by omega)
    obtain ⟨r, hri⟩ : ∃ r, l[i]? = some r := ⟨l[i], by simp [hlt]⟩
    (conv => arg 4; whnf)
    refine draw_still mixed (by kernel_rfl) rfl fun wd hwd hnd => ?_
    have hu1 := (hu.frm hw (fun _ _ h => h)).frm hnd (fun _ _ h => h)
    have hv1 := (hv.frm hw (fun _ _ h => h)).frm hnd (fun _ _ h => h)
    have e0 : wd.cell? ⟨g, i, none⟩ = some (.int .i64 r) := hu1.cell (by simp [hri])
    have k0 : wd.cell? ⟨g2, i, none⟩ = some (.int .i64 r) := hv1.cell (by simp [hri])
    simp [go_sem, stillsF, stillUpF, Region.wanted, Fr.ev, Fr.put, thenE, inBlockE, yieldF, h0, h1, h5, h12, h13, hlt, e0, k0]
    refine on_kf hK18 [(0, _), (1, _), (12, _), (13, _), (24, _)] (fa_cons h0 (fa_cons h1 (fa_cons h12 (fa_cons h13 (fa_cons (by simp [h0, h1, h5, h12, h13] <;> rfl) fa_nil))))) hds ?_
    clear hK18 h0 h1 h5 h12 h13 hds; intro s hs hds
    obtain ⟨h0, h1, h12, h13, h24⟩ := facts5 hs; clear hs
    refine at_false 24 rfl h24 ?_
    have d1 : IntKind.i64.wrap ((i : Int) + 1) = (i : Int) + 1 := IntWalk.i64_in _ (by omega)
    refine at_skip rfl ?_
    try simp only [inBlockE, thenE]
    refine hK16 _ _ ?_
    clear hK16
    (conv => arg 4; whnf)
    refine fw_region_lit rfl ?_
    simp [go_sem, opsF, opF, upF, Region.wanted, Fr.ev, Fr.put, thenE, inBlockE, Oper.semAt, yieldF, h0, h1, h12, h13, h24, d1]
    exact ⟨l.length - (i + 1), by omega, i + 1, by omega, rfl, by simp [hds], by simp [h0], by simp [h1], by simp [h12], by simp, New.trans hw hnd⟩
  · have d0 : ¬ (i : Int) < (l.length : Int) := by omega
    refine at_seq rfl fun K19 hK19 => ?_
    (conv => arg 4; whnf)
    refine fw_region_lit rfl ?_
    simp [go_sem, opsF, opF, upF, Region.wanted, Fr.ev, Fr.put, thenE, inBlockE, Oper.semAt, yieldF, h0, h1, h12, h13, d0]
    refine on_kf hK19 [(0, _), (1, _), (12, _), (13, _), (14, _)] (fa_cons h0 (fa_cons h1 (fa_cons h12 (fa_cons h13 (fa_cons (by simp [h0, h1, h12, h13, d0] <;> rfl) fa_nil))))) hds ?_
    clear hK19 h0 h1 h12 h13 hds; intro s hs hds
    obtain ⟨h0, h1, h12, h13, h14⟩ := facts5 hs; clear hs
    refine at_seq rfl fun K20 hK20 => ?_
    refine at_false 14 rfl h14 ?_
    refine at_exit 0 rfl ?_
    simp only [inBlockE, thenE, if_true]
    refine hK12 _ _ ?_
    clear hK12
    refine at_seq rfl fun K21 hK21 => ?_
    (conv => arg 4; whnf)
    refine fw_region_lit rfl ?_
    simp [go_sem, opsF, opF, upF, Region.wanted, Fr.ev, Fr.put, thenE, inBlockE, Oper.semAt, yieldF, h0, h1, h12, h13, h14]
    refine on_kf hK21 [(4, _)] (fa_cons (by simp [h0, h1, h12, h13, h14] <;> rfl) fa_nil) hds ?_
    clear hK21 h0 h1 h12 h13 h14 hds; intro s hs hds
    have h4 : s.t 4 = _ := hs (4, _) (List.mem_singleton_self _); clear hs
    refine at_ret rfl ?_
    try simp only [inBlockE, thenE]
    refine ret_one rfl hds ?_
    rw [h4]
    exact ⟨rfl, hw⟩

def EqI17 (w0 : World) (n : Nat) (u v : Value) (m : Nat) (s : Fr) (w : World) : Prop :=
  ∃ i : Nat, i ≤ n ∧ m = n - i ∧ s.ds = [] ∧ s.t 0 = u ∧ s.t 1 = v ∧ s.t 12 = .int .i64 (n : Int) ∧ s.t 13 = .int .i64 (i : Int) ∧ New w0 w

noncomputable def body17 : Code := Try.f17.body.getD .skip
theorem call17 (args : Array Value) (w : World) : (callFunc 17 args).run Try.prog w = .ok (.enter 17 args) w := callFunc_enter Try.func17 (by kernel_rfl) (by kernel_rfl) args w
theorem equalTr_any (u v : Value) (l : List Tr) (w : World) (hu : Row w 43 3 u l.length (trs l)) (hv : Row w 43 3 v l.length (trs l)) :
    CallsV Try.prog 17 #[u, v] w fun b w' => b = .bool true ∧ New w w' := by
  obtain ⟨ad, cp, hlu, had⟩ : ∃ ad cp, u = .slice ad l.length cp ∧ (0 < l.length → ∃ g, ad = some ⟨g, 0, none⟩) := by
    rcases hu.val with ⟨h, h', _⟩ | ⟨g, cap, h, _⟩
    · exact ⟨none, 0, by rw [h, h'], fun h => by omega⟩
    · exact ⟨_, cap, h, fun _ => ⟨g, rfl⟩⟩
  obtain ⟨bd, cq, hlv, hbd⟩ : ∃ ad cp, v = .slice ad l.length cp ∧ (0 < l.length → ∃ g, ad = some ⟨g, 0, none⟩) := by
    rcases hv.val with ⟨h, h', _⟩ | ⟨g, cap, h, _⟩
    · exact ⟨none, 0, by rw [h, h'], fun h => by omega⟩
    · exact ⟨_, cap, h, fun _ => ⟨g, rfl⟩⟩
  have hlen : l.length ≤ 9223372036854775807 := by
    rcases hu.val with ⟨_, h', _⟩ | ⟨g, cap, _, h, h'⟩
    · omega
    · unfold maxLen at h'; omega
  subst hlu hlv
  refine calls_at body17 Try.func17 rfl 26 rfl (by simp) fun s hs hds => ?_
  have h0 := hs 0 _ rfl
  have h1 := hs 1 _ rfl
  clear hs
  refine at_seq rfl fun K22 hK22 => ?_
  (conv => arg 4; whnf)
  refine fw_region_lit rfl ?_
  simp [go_sem, opsF, opF, upF, Region.wanted, Fr.ev, Fr.put, thenE, inBlockE, Oper.semAt, yieldF, h0, h1]
  refine on_kf hK22 [(0, _), (1, _)] (fa_cons h0 (fa_cons h1 fa_nil)) hds ?_
  clear hK22 h0 h1 hds; intro s hs hds
  obtain ⟨h0, h1⟩ := facts2 hs; clear hs
  refine at_seq rfl fun K23 hK23 => ?_
  refine at_seq rfl fun K24 hK24 => ?_
  (conv => arg 4; whnf)
  refine fw_region_lit rfl ?_
  simp [go_sem, opsF, opF, upF, Region.wanted, Fr.ev, Fr.put, thenE, inBlockE, Oper.semAt, yieldF, h0, h1]
  refine on_kf hK24 [(0, _), (1, _), (10, _)] (fa_cons h0 (fa_cons h1 (fa_cons (by simp [h0, h1] <;> rfl) fa_nil))) hds ?_
  clear hK24 h0 h1 hds; intro s hs hds
  obtain ⟨h0, h1, h10⟩ := facts3 hs; clear hs
  refine at_false 10 rfl h10 ?_
  refine at_skip rfl ?_
  try simp only [inBlockE, thenE]
  refine hK23 _ _ ?_
  clear hK23
  refine at_seq rfl fun K25 hK25 => ?_
  refine at_seq rfl fun K26 hK26 => ?_
  (conv => arg 4; whnf)
  refine fw_region_lit rfl ?_
  simp [go_sem, opsF, opF, upF, Region.wanted, Fr.ev, Fr.put, thenE, inBlockE, Oper.semAt, yieldF, h0, h1, h10]
  refine on_kf hK26 [(0, _), (1, _), (12, _), (13, _)] (fa_cons h0 (fa_cons h1 (fa_cons (by simp [h0, h1, h10] <;> rfl) (fa_cons (by simp [h0, h1, h10] <;> rfl) fa_nil)))) hds ?_
  clear hK26 h0 h1 h10 hds; intro s hs hds
  obtain ⟨h0, h1, h12, h13⟩ := facts4 hs; clear hs
  refine at_block 0 rfl ?_
  refine at_loop rfl (EqI17 w l.length (.slice ad l.length cp) (.slice bd l.length cq)) l.length ⟨0, by omega, by omega, hds, h0, h1, h12, h13, Frm.refl _ _⟩ ?_
  clear h0 h1 h12 h13 hds
  clear s
  rintro m s w1 ⟨i, hi, rfl, hds, h0, h1, h12, h13, hw⟩
  by_cases hlt : i < l.length
  · have d0 : (i : Int) < (l.length : Int) := by omega
    refine at_seq rfl fun K27 hK27 => ?_
    (conv => arg 4; whnf)
    refine fw_region_lit rfl ?_
    simp [go_sem, opsF, opF, upF, Region.wanted, Fr.ev, Fr.put, thenE, inBlockE, Oper.semAt, yieldF, h0, h1, h12, h13, d0]
    refine on_kf hK27 [(0, _), (1, _), (12, _), (13, _), (14, _)] (fa_cons h0 (fa_cons h1 (fa_cons h12 (fa_cons h13 (fa_cons (by simp [h0, h1, h12, h13, d0] <;> rfl) fa_nil))))) hds ?_
    clear hK27 h0 h1 h12 h13 hds; intro s hs hds
    obtain ⟨h0, h1, h12, h13, h14⟩ := facts5 hs; clear hs
    refine at_seq rfl fun K28 hK28 => ?_
    refine at_true 14 rfl h14 ?_
    refine at_skip rfl ?_
    try simp only [inBlockE, thenE]
    refine hK28 _ _ ?_
    clear hK28
    refine at_seq rfl fun K29 hK29 => ?_
    refine at_block 1 rfl ?_
    refine at_seq rfl fun K30 hK30 => ?_
    (conv => arg 4; whnf)
    refine fw_region_lit rfl ?_
    simp [go_sem, opsF, opF, upF, Region.wanted, Fr.ev, Fr.put, thenE, inBlockE, Oper.semAt, yieldF, h0, h1, h12, h13, h14]
    refine on_kf hK30 [(0, _), (1, _), (5, _), (12, _), (13, _)] (fa_cons h0 (fa_cons h1 (fa_cons (by simp [h0, h1, h12, h13, h14] <;> rfl) (fa_cons h12 (fa_cons h13 fa_nil))))) hds ?_
    clear hK30 h0 h1 h12 h13 h14 hds; intro s hs hds
    obtain ⟨h0, h1, h5, h12, h13⟩ := facts5 hs; clear hs
    refine at_seq rfl fun K31 hK31 => ?_
    obtain ⟨g, rfl⟩ := had (by omega)
    obtain ⟨g2, rfl⟩ := hbd (by omega)
    obtain ⟨r, hri⟩ : ∃ r, l[i]? = some r := ⟨l[i], by simp [hlt]⟩
    (conv => arg 4; whnf)
    refine draw_still mixed (by kernel_rfl) rfl fun wd hwd hnd => ?_
    have hu1 := (hu.frm hw (fun _ _ h => h)).frm hnd (fun _ _ h => h)
    have hv1 := (hv.frm hw (fun _ _ h => h)).frm hnd (fun _ _ h => h)
    have e0 : wd.cell? ⟨g, i * 3, none⟩ = some (.int .i64 r.fr) := hu1.cell (trs_get l i 0 r hri (by decide))
    have e1 : wd.cell? ⟨g, i * 3 + 1, none⟩ = some (.int .i64 r.to) := hu1.cell (trs_get l i 1 r hri (by decide))
    have e2 : wd.cell? ⟨g, i * 3 + 2, none⟩ = some (.bool r.held) := hu1.cell (trs_get l i 2 r hri (by decide))
    have k0 : wd.cell? ⟨g2, i * 3, none⟩ = some (.int .i64 r.fr) := hv1.cell (trs_get l i 0 r hri (by decide))
    have k1 : wd.cell? ⟨g2, i * 3 + 1, none⟩ = some (.int .i64 r.to) := hv1.cell (trs_get l i 1 r hri (by decide))
    have k2 : wd.cell? ⟨g2, i * 3 + 2, none⟩ = some (.bool r.held) := hv1.cell (trs_get l i 2 r hri (by decide))
    simp [go_sem, stillsF, stillUpF, Region.wanted, Fr.ev, Fr.put, thenE, inBlockE, yieldF, h0, h1, h5, h12, h13, hlt, e0, e1, e2, k0, k1, k2]
    refine on_kf hK31 [(0, _), (1, _), (12, _), (13, _), (24, _)] (fa_cons h0 (fa_cons h1 (fa_cons h12 (fa_cons h13 (fa_cons (by simp [h0, h1, h5, h12, h13] <;> rfl) fa_nil))))) hds ?_
    clear hK31 h0 h1 h5 h12 h13 hds; intro s hs hds
    obtain ⟨h0, h1, h12, h13, h24⟩ := facts5 hs; clear hs
    refine at_false 24 rfl h24 ?_
    have d1 : IntKind.i64.wrap ((i : Int) + 1) = (i : Int) + 1 := IntWalk.i64_in _ (by omega)
    refine at_skip rfl ?_
    try simp only [inBlockE, thenE]
    refine hK29 _ _ ?_
    clear hK29
    (conv => arg 4; whnf)
    refine fw_region_lit rfl ?_
    simp [go_sem, opsF, opF, upF, Region.wanted, Fr.ev, Fr.put, thenE, inBlockE, Oper.semAt, yieldF, h0, h1, h12, h13, h24, d1]
    exact ⟨l.length - (i + 1), by omega, i + 1, by omega, rfl, by simp [hds], by simp [h0], by simp [h1], by simp [h12], by simp, New.trans hw hnd⟩
  · have d0 : ¬ (i : Int) < (l.length : Int) := by omega
    refine at_seq rfl fun K32 hK32 => ?_
    (conv => arg 4; whnf)
    refine fw_region_lit rfl ?_
    simp [go_sem, opsF, opF, upF, Region.wanted, Fr.ev, Fr.put, thenE, inBlockE, Oper.semAt, yieldF, h0, h1, h12, h13, d0]
    refine on_kf hK32 [(0, _), (1, _), (12, _), (13, _), (14, _)] (fa_cons h0 (fa_cons h1 (fa_cons h12 (fa_cons h13 (fa_cons (by simp [h0, h1, h12, h13, d0] <;> rfl) fa_nil))))) hds ?_
    clear hK32 h0 h1 h12 h13 hds; intro s hs hds
    obtain ⟨h0, h1, h12, h13, h14⟩ := facts5 hs; clear hs
    refine at_seq rfl fun K33 hK33 => ?_
    refine at_false 14 rfl h14 ?_
    refine at_exit 0 rfl ?_
    simp only [inBlockE, thenE, if_true]
    refine hK25 _ _ ?_
    clear hK25
    refine at_seq rfl fun K34 hK34 => ?_
    (conv => arg 4; whnf)
    refine fw_region_lit rfl ?_
    simp [go_sem, opsF, opF, upF, Region.wanted, Fr.ev, Fr.put, thenE, inBlockE, Oper.semAt, yieldF, h0, h1, h12, h13, h14]
    refine on_kf hK34 [(4, _)] (fa_cons (by simp [h0, h1, h12, h13, h14] <;> rfl) fa_nil) hds ?_
    clear hK34 h0 h1 h12 h13 h14 hds; intro s hs hds
    have h4 : s.t 4 = _ := hs (4, _) (List.mem_singleton_self _); clear hs
    refine at_ret rfl ?_
    try simp only [inBlockE, thenE]
    refine ret_one rfl hds ?_
    rw [h4]
    exact ⟨rfl, hw⟩
end Go.Proofs.Ytiejaopidkghdac
