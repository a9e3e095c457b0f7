/- Directories: with another slot at a spot (dir.with). -/
import Derived.Test.YtgpanbmjmpondaaDirI
import Derived.Test.YtgpanbmjmpondaaEngZ
namespace Go.Proofs.Ytgpanbmjmpondaa
set_option maxRecDepth 4000
open Go Go.Par PH
def chu0 : Chu := ⟨0, List.replicate 10 slo0⟩
def grow (r : List Chu) (c : Nat) : List Chu := if c = r.length then r ++ [chu0] else r
def setC (x : Chu) (s : Nat) (y : Slo) : Chu := ⟨x.blk, x.sl.set s y⟩
def setRw (r : List Chu) (c s : Nat) (y : Slo) : List Chu := (grow r c).set c (setC ((grow r c)[c]?.getD chu0) s y)
def Dr.put (d : Dr) (k : Nat) (r : List Chu) : Dr := match k with
  | 0 => { d with b0 := r }
  | 1 => { d with b1 := r }
  | 2 => { d with b2 := r }
  | _ => { d with b3 := r }
def withD (d : Dr) (k c s : Nat) (y : Slo) : Dr := d.put k (setRw (d.row k) c s y)
theorem flatSl (l : List Slo) : (l.flatMap encSlo).all flat = true := by
  rw [List.all_flatMap]; simp only [List.all_eq_true]; intro x _ y hy
  simp only [encSlo, List.mem_cons, List.not_mem_nil, or_false] at hy
  rcases hy with rfl | rfl | rfl <;> rfl
theorem flatC (l : List Chu) : ∀ x ∈ l, (encChu x).all flat = true := fun x _ => by
  simp only [encChu, List.all_cons, flatSl]; rfl
theorem elemC : ElemT Try.prog 22 67 31 328 := ElemT.mk' rfl rfl
theorem lenC {x : Chu} (h : x.sl.length = 10) : (encChu x).length = 31 := by
  have h2 : (x.sl.flatMap encSlo).length = x.sl.length * 3 := flat_len x.sl (fun _ _ => rfl)
  simp only [encChu, List.length_cons, h2]; omega
theorem lensC {l : List Chu} (h : tenR l) : ∀ x ∈ l, (encChu x).length = 31 := fun x hx => lenC (h x hx)
theorem ten_grow {r : List Chu} (h : tenR r) (c : Nat) : tenR (grow r c) := by
  unfold grow
  split
  · intro x hx
    simp only [List.mem_append, List.mem_singleton] at hx
    rcases hx with hx | rfl
    · exact h x hx
    · rfl
  · exact h
theorem ten_setC {x : Chu} (h : x.sl.length = 10) (s : Nat) (y : Slo) : (setC x s y).sl.length = 10 := by simp [setC, h]
theorem ten_setRw {r : List Chu} (h : tenR r) (c s : Nat) (y : Slo) : tenR (setRw r c s y) := fun x hx => by
  unfold setRw at hx
  rcases List.mem_or_eq_of_mem_set hx with hx | rfl
  · exact ten_grow h c x hx
  · refine ten_setC ?_ s y
    cases hg : (grow r c)[c]? with
    | none => rfl
    | some z => exact ten_grow h c z (List.mem_of_getElem? hg)
theorem wr_skip {a c : List Value} : ∀ {vs : List Value} {q : Nat}, wr (a ++ c) (a.length + q) vs = a ++ wr c q vs
  | [], _ => rfl
  | v :: vs, q => by
    simp only [wr]
    rw [List.set_append_right _ _ (by omega), show a.length + q - a.length = q from by omega, show a.length + q + 1 = a.length + (q + 1) from by omega, wr_skip]
theorem wr_pre {c : List Value} : ∀ {vs us : List Value}, us.length = vs.length → wr (us ++ c) 0 vs = vs ++ c := fun {vs us} h => by
  apply List.ext_getElem?
  intro j
  rw [wr_get (by simp; omega)]
  by_cases hj : j < vs.length
  · rw [if_pos (by omega), List.getElem?_append_left hj]; congr 1
  · rw [if_neg (by omega), List.getElem?_append_right (by omega), List.getElem?_append_right (by omega), h]
theorem wr_sl (y : Slo) : ∀ (l : List Slo) (s : Nat), s < l.length → wr (l.flatMap encSlo) (s * 3) (encSlo y) = (l.set s y).flatMap encSlo
  | [], s, h => by simp at h
  | x :: l, 0, h => by
    simp only [List.flatMap_cons, List.set_cons_zero, Nat.zero_mul]
    exact wr_pre rfl
  | x :: l, s + 1, h => by
    simp only [List.flatMap_cons, List.set_cons_succ]
    rw [← wr_sl y l s (by simpa using h), show (s + 1) * 3 = (encSlo x).length + s * 3 from by simp only [encSlo, List.length_cons, List.length_nil]; omega, wr_skip]
theorem wr_chu (x : Chu) (y : Slo) {s : Nat} (hs : s < x.sl.length) : wr (encChu x) (1 + s * 3) (encSlo y) = encChu (setC x s y) := by
  have h := wr_skip (a := [.int .i64 x.blk]) (c := x.sl.flatMap encSlo) (vs := encSlo y) (q := s * 3)
  unfold encChu setC
  rw [← wr_sl y x.sl s hs]
  exact h
attribute [local irreducible] W WL Does Exec Body Then inBlk RG WR row obj pblk
set_option maxHeartbeats 400000 in
theorem cloneC_fn (h : PH) (l : List Chu) (v : Value) (hv : Sl encChu 31 h v l) (hl : l.length ≤ 1000000) :
    Does Try.prog 44 [v] [] h (Ret fun r R' _ => (∃ a cap, r = .slice a l.length cap) ∧ R' = [rowL encChu r 67 31 l]) := by
  obtain ⟨a, cap, hva⟩ := hv.shape
  subst hva
  refine Does_of_W Try.func44 rfl (n := 8) rfl rfl (by simp only [argE] <;> rfl) ?_
  cases a with
  | none =>
    have hl0 : l = [] := by
      obtain ⟨_, a, c, e, _, hn, _⟩ := hv
      simp only [Value.slice.injEq] at e
      exact (hn e.1.symm).1
    have hc0 : cap = 0 := by
      obtain ⟨_, a, c, e, _, hn, _⟩ := hv
      simp only [Value.slice.injEq] at e
      rw [e.2.2]; exact (hn e.1.symm).2
    subst hl0; subst hc0
    (repeat (first | refine W_seq ?_))
    skip
    refine W_region rfl ?_
    refine WL_is (X_assign rfl rfl) rfl rfl rfl ?_
    (repeat (first | refine WL_nil ?_ | refine Then_normal ?_ | refine W_seq ?_))
    skip
    refine W_region rfl ?_
    refine WL_is (X_move rfl rfl) rfl rfl rfl ?_
    refine WL_is (X_nilSl rfl rfl rfl rfl) rfl rfl rfl ?_
    (repeat (first | refine WL_nil ?_ | refine Then_normal ?_ | refine W_seq ?_ | refine W_true rfl ?_))
    skip
    refine W_region rfl ?_
    refine WL_is (X_assign rfl rfl) rfl rfl rfl ?_
    (repeat (first | refine WL_nil ?_ | refine Then_normal ?_ | refine W_ret ?_ | refine Then_ret ?_))
    refine Body_vals (.cons (.tmp rfl) .nil) rfl ?_
    exact UpdE.of (Upd.nilrow (e := 67) (sz := 31)) ⟨⟨_, _, rfl⟩, rfl⟩
  | some a =>
    (repeat (first | refine W_seq ?_))
    skip
    refine W_region rfl ?_
    refine WL_is (X_assign rfl rfl) rfl rfl rfl ?_
    (repeat (first | refine WL_nil ?_ | refine Then_normal ?_ | refine W_seq ?_))
    skip
    refine W_region rfl ?_
    refine WL_is (X_move rfl rfl) rfl rfl rfl ?_
    refine WL_is (X_nilSl rfl rfl rfl rfl) rfl rfl rfl ?_
    (repeat (first | refine WL_nil ?_ | refine Then_normal ?_ | refine W_seq ?_ | refine W_skip ?_ | refine W_false rfl ?_))
    skip
    refine W_region rfl ?_
    refine WL_buildSlice rfl rfl rfl rfl rfl rfl rfl rfl rfl rfl rfl rfl rfl ?_
    intro b
    refine WL_upd (Upd.blkrow (cap := 0) (m := 0) (sz := 31) (xs := []) 0 rfl (Nat.le_refl _) rfl rfl) ?_
    refine WL_is (X_move rfl rfl) rfl rfl rfl ?_
    refine WL_append (enc := encChu) (L := []) (i := 0) rfl rfl rfl elemC rfl rfl (Src.sl hv) (flatC l) (by simp; omega) (by simp; omega) rfl rfl rfl ?_
    intro v'
    refine WL_is (X_assign rfl rfl) rfl rfl rfl ?_
    (repeat (first | refine WL_nil ?_ | refine Then_normal ?_ | refine W_ret ?_))
    refine Body_vals (.cons (.tmp rfl) .nil) rfl ?_
    refine (UpdE.shapeL 0 rfl).mono ?_
    rintro R1 h1 - ⟨e1, -, hs⟩
    exact ⟨hs, e1⟩
end Go.Proofs.Ytgpanbmjmpondaa
