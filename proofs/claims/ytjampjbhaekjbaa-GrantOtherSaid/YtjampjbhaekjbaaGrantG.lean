/- Who may do what: the plain law. It walks no code. -/
import Derived.Test.YtjampjbhaekjbaaGrantE
namespace Go.Proofs.Ytjampjbhaekjbaa
open Go Go.Par PH
def r7 (x : Int) : Prop := 0 ≤ x ∧ x ≤ 7
theorem r7_fin {x : Int} (h : r7 x) : ∃ n : Fin 8, x = ((n.val : Nat) : Int) := ⟨⟨x.toNat, by have := h.1; have := h.2; omega⟩, by have := h.1; dsimp only; omega⟩
theorem has_nat (a b : Fin 8) : hasP ((a.val : Nat) : Int) ((b.val : Nat) : Int) = decide (a.val &&& b.val = b.val) := by
  unfold hasP
  rw [u8_and_nat a.val b.val (by omega) (by omega)]
  by_cases h : a.val &&& b.val = b.val
  · rw [h]; simp
  · rw [decide_eq_false h, decide_eq_false]
    intro e; apply h; exact Int.ofNat.inj e
theorem and_lt (a b : Fin 8) : a.val &&& b.val < 8 := Nat.and_lt_two_pow (n := 3) _ b.isLt
theorem or_lt (a b : Fin 8) : a.val ||| b.val < 8 := Nat.or_lt_two_pow (n := 3) a.isLt b.isLt
theorem and_fin (a b : Fin 8) : bits .and .u8 ((a.val : Nat) : Int) ((b.val : Nat) : Int) = (((⟨a.val &&& b.val, and_lt a b⟩ : Fin 8).val : Nat) : Int) := u8_and_nat a.val b.val (by omega) (by omega)
theorem or_fin (a b : Fin 8) : bits .or .u8 ((a.val : Nat) : Int) ((b.val : Nat) : Int) = (((⟨a.val ||| b.val, or_lt a b⟩ : Fin 8).val : Nat) : Int) := u8_or_nat a.val b.val (by omega) (by omega)
theorem r7_of (n : Fin 8) : r7 ((n.val : Nat) : Int) := ⟨by omega, by omega⟩
theorem r7_and {x y : Int} (hx : r7 x) (hy : r7 y) : r7 (bits .and .u8 x y) := by
  obtain ⟨a, rfl⟩ := r7_fin hx; obtain ⟨b, rfl⟩ := r7_fin hy; rw [and_fin]; exact r7_of _
theorem r7_or {x y : Int} (hx : r7 x) (hy : r7 y) : r7 (bits .or .u8 x y) := by
  obtain ⟨a, rfl⟩ := r7_fin hx; obtain ⟨b, rfl⟩ := r7_fin hy; rw [or_fin]; exact r7_of _
theorem fin_and : ∀ x m w : Fin 8, decide ((x.val &&& m.val) &&& w.val = w.val) = (decide (x.val &&& w.val = w.val) && decide (m.val &&& w.val = w.val)) := by decide +kernel
theorem has_and {x m w : Int} (hx : r7 x) (hm : r7 m) (hw : r7 w) : hasP (bits .and .u8 x m) w = (hasP x w && hasP m w) := by
  obtain ⟨a, rfl⟩ := r7_fin hx; obtain ⟨b, rfl⟩ := r7_fin hm; obtain ⟨c, rfl⟩ := r7_fin hw
  rw [and_fin, has_nat, has_nat, has_nat]; exact fin_and a b c
theorem fin_or1 : ∀ x m : Fin 8, decide ((x.val ||| m.val) &&& 1 = 1) = (decide (x.val &&& 1 = 1) || decide (m.val &&& 1 = 1)) := by decide +kernel
theorem has_or1 {x m : Int} (hx : r7 x) (hm : r7 m) : hasP (bits .or .u8 x m) 1 = (hasP x 1 || hasP m 1) := by
  obtain ⟨a, rfl⟩ := r7_fin hx; obtain ⟨b, rfl⟩ := r7_fin hm
  have h1 : (1 : Int) = (((1 : Fin 8).val : Nat) : Int) := rfl
  rw [h1, or_fin, has_nat, has_nat, has_nat]; exact fin_or1 a b
theorem fin_root : ∀ u w : Fin 8, decide ((6 ||| (u.val &&& 1)) &&& w.val = w.val) = (!decide (w.val &&& 1 = 1) || decide (u.val &&& 1 = 1)) := by decide +kernel
theorem has_root {u w : Int} (hu : r7 u) (hw : r7 w) : hasP (bits .or .u8 6 (bits .and .u8 u 1)) w = (!hasP w 1 || hasP u 1) := by
  obtain ⟨a, rfl⟩ := r7_fin hu; obtain ⟨b, rfl⟩ := r7_fin hw
  have h1 : (1 : Int) = (((1 : Fin 8).val : Nat) : Int) := rfl
  have h6 : (6 : Int) = (((6 : Fin 8).val : Nat) : Int) := rfl
  rw [h1, h6, and_fin, or_fin, has_nat, has_nat, has_nat]; exact fin_root a b
theorem fin_7 : ∀ w : Fin 8, 7 &&& w.val = w.val := by decide +kernel
theorem fin_7r : ∀ w : Fin 8, w.val &&& 7 = w.val := by decide +kernel
theorem has_7 {w : Int} (hw : r7 w) : hasP 7 w = true := by
  obtain ⟨a, rfl⟩ := r7_fin hw
  have h1 : (7 : Int) = (((7 : Fin 8).val : Nat) : Int) := rfl
  rw [h1, has_nat]; exact decide_eq_true (fin_7 a)
theorem and_7 {w : Int} (hw : r7 w) : bits .and .u8 w 7 = w := by
  obtain ⟨a, rfl⟩ := r7_fin hw
  have h1 : (7 : Int) = (((7 : Fin 8).val : Nat) : Int) := rfl
  rw [h1, and_fin]; exact congrArg _ (fin_7r a)
/-! What may be is below eight. -/
theorem g_p7_iff {a : Acl} : a.p7 = true ↔ a.o ≤ 7 ∧ a.g ≤ 7 ∧ a.t ≤ 7 ∧ a.m ≤ 7 := by
  simp [Acl.p7, allB, and_assoc]
theorem namedB_mem {l : List (Int × Int)} (h : namedB l = true) : ∀ x ∈ l, x.2 ≤ 7 := by
  intro x hx
  unfold namedB at h
  rw [Bool.and_eq_true] at h
  obtain ⟨i, hi, rfl⟩ := List.getElem_of_mem hx
  have := allB_iff.1 h.2 i hi
  unfold goodB at this
  rw [dif_pos hi] at this
  exact (of_decide_eq_true this).1
structure Fine (a : Acl) : Prop where
  o : r7 a.o
  g : r7 a.g
  t : r7 a.t
  m : r7 a.m
  us : ∀ x ∈ a.us, r7 x.2
  gs : ∀ x ∈ a.gs, r7 x.2
  lone : a.hm = false → a.us = [] ∧ a.gs = []
theorem Acl.fine {a : Acl} (hok : a.Ok) (h : a.may = true) : Fine a := by
  unfold Acl.may at h
  simp only [Bool.and_eq_true] at h
  obtain ⟨⟨⟨h1, h2⟩, h3⟩, h4⟩ := h
  obtain ⟨p1, p2, p3, p4⟩ := g_p7_iff.1 h1
  refine ⟨⟨hok.o.1, p1⟩, ⟨hok.g.1, p2⟩, ⟨hok.t.1, p3⟩, ⟨hok.m.1, p4⟩, fun x hx => ⟨(hok.us x hx).2.1, namedB_mem h2 x hx⟩, fun x hx => ⟨(hok.gs x hx).2.1, namedB_mem h3 x hx⟩, fun e => ?_⟩
  unfold Acl.lone at h4
  rw [e] at h4
  simp only [Bool.false_or, Bool.and_eq_true, decide_eq_true_eq, List.length_eq_zero_iff] at h4
  exact ⟨h4.1.2, h4.2⟩
theorem Attr.fine {a : Attr} (hok : a.Ok) (h : a.may = true) : Fine a.acc := by
  refine Acl.fine hok.acc ?_
  rw [Attr.may_eq] at h
  simp only [Bool.and_eq_true] at h
  exact h.1.1.1.2
theorem maskP_r7 {a : Acl} (hf : Fine a) : r7 (maskP a) := by
  unfold maskP
  split
  · exact hf.m
  · exact ⟨by decide, by decide⟩
theorem masked_eq {a : Acl} {x : Int} (hx : r7 x) : bits .and .u8 x (maskP a) = maskedP a x := by
  unfold maskP maskedP
  split
  · rfl
  · exact and_7 hx
/-! All put together. -/
theorem r7_0 : r7 0 := ⟨by decide, by decide⟩
theorem foldl_or : ∀ {l : List Int} {n : Int}, r7 n → (∀ x ∈ l, r7 x) → r7 (l.foldl (fun n p => bits .or .u8 n p) n) ∧ hasP (l.foldl (fun n p => bits .or .u8 n p) n) 1 = (hasP n 1 || l.any fun x => hasP x 1)
  | [], n, hn, _ => ⟨hn, by simp⟩
  | x :: l, n, hn, hl => by
    have hx : r7 x := hl x (by simp)
    obtain ⟨h1, h2⟩ := foldl_or (l := l) (r7_or hn hx) (fun y hy => hl y (by simp [hy]))
    refine ⟨h1, ?_⟩
    rw [List.foldl_cons, h2, has_or1 hn hx, List.any_cons, Bool.or_assoc]
theorem has_01 : hasP 0 1 = false := by
  have h0 : (0 : Int) = (((0 : Fin 8).val : Nat) : Int) := rfl
  have h1 : (1 : Int) = (((1 : Fin 8).val : Nat) : Int) := rfl
  rw [h0, h1, has_nat]; rfl
theorem unionP_r7 {l : List Int} (hl : ∀ x ∈ l, r7 x) : r7 (unionP l) := (foldl_or r7_0 hl).1
theorem unionP_1 {l : List Int} (hl : ∀ x ∈ l, r7 x) : hasP (unionP l) 1 = l.any fun x => hasP x 1 := by
  have := (foldl_or r7_0 hl).2
  rw [has_01, Bool.false_or] at this
  exact this
theorem permsP_any (l : List (Int × Int)) (p : Int → Bool) : (permsP l).any p = l.any fun x => p x.2 := by
  unfold permsP; rw [List.any_map]; rfl
theorem permsP_mem {l : List (Int × Int)} {q : Int → Prop} (h : ∀ x ∈ l, q x.2) : ∀ x ∈ permsP l, q x := by
  intro x hx
  unfold permsP at hx
  obtain ⟨y, hy, rfl⟩ := List.mem_map.1 hx
  exact h y hy
theorem groupsP_any {c : Cred} {a : Attr} (p : Int → Bool) : (groupsP c a).any p = ((c.inB a.gid && p a.acc.g) || a.acc.gs.any fun x => c.inB x.1 && p x.2) := by
  unfold groupsP
  rw [List.any_append, permsP_any, List.any_filter, Bool.or_comm]
  congr 1
  cases c.inB a.gid <;> simp
theorem groupsP_r7 {c : Cred} {a : Attr} (hf : Fine a.acc) : ∀ x ∈ groupsP c a, r7 x := by
  intro x hx
  unfold groupsP at hx
  rcases List.mem_append.1 hx with h | h
  · exact permsP_mem (q := r7) (fun y hy => hf.gs y (List.mem_filter.1 hy).1) x h
  · split at h
    · rw [List.mem_singleton] at h; subst h; exact hf.g
    · simp at h
theorem groupsP_nil {c : Cred} {a : Attr} : groupsP c a = [] ↔ (c.inB a.gid || a.acc.gs.any fun x => c.inB x.1) = false := by
  have h := groupsP_any (c := c) (a := a) (fun _ => true)
  simp only [Bool.and_true] at h
  rw [← h]
  cases groupsP c a <;> simp
theorem any_congr_mem {α : Type} {l : List α} {p q : α → Bool} (h : ∀ x ∈ l, p x = q x) : l.any p = l.any q := by
  induction l with
  | nil => rfl
  | cons x l ih => rw [List.any_cons, List.any_cons, h x (by simp), ih fun y hy => h y (by simp [hy])]
theorem masked_any {c : Cred} {a : Attr} (hf : Fine a.acc) (p : Int → Bool) : ((groupsP c a).map fun x => bits .and .u8 x (maskP a.acc)).any p = (groupsP c a).any fun x => p (maskedP a.acc x) := by
  rw [List.any_map]
  exact any_congr_mem fun x hx => by simp only [Function.comp_apply]; rw [masked_eq (groupsP_r7 hf x hx)]
theorem any_choices {c : Cred} {a : Attr} {dir : Bool} {want : Int} (hf : Fine a.acc) (hw : r7 want) : ((choicesP c a dir).any fun p => hasP p want) = grantedR c a dir want := by
  unfold choicesP grantedR
  split
  · cases dir with
    | true => simp [has_7 hw]
    | false =>
      simp only [Bool.false_eq_true, if_false, List.any_cons, List.any_nil, Bool.or_false, Bool.false_or]
      have hu := permsP_mem (q := r7) hf.us
      have hg := permsP_mem (q := r7) hf.gs
      have hall : ∀ x ∈ [a.acc.o, a.acc.g, a.acc.t, unionP (permsP a.acc.us), unionP (permsP a.acc.gs)], r7 x := by
        intro x hx
        simp only [List.mem_cons, List.not_mem_nil, or_false] at hx
        rcases hx with rfl | rfl | rfl | rfl | rfl
        · exact hf.o
        · exact hf.g
        · exact hf.t
        · exact unionP_r7 hu
        · exact unionP_r7 hg
      rw [has_root (unionP_r7 hall) hw, unionP_1 hall]
      simp only [List.any_cons, List.any_nil, Bool.or_false]
      rw [unionP_1 hu, unionP_1 hg, permsP_any, permsP_any]
      unfold runsP
      congr 1
      generalize (a.acc.us.any fun x => hasP x.2 1) = p1
      generalize (a.acc.gs.any fun x => hasP x.2 1) = p2
      generalize hasP a.acc.o 1 = p3
      generalize hasP a.acc.g 1 = p4
      generalize hasP a.acc.t 1 = p5
      cases p1 <;> cases p2 <;> cases p3 <;> cases p4 <;> cases p5 <;> rfl
  · split
    · simp
    · cases hx : a.acc.us.find? (fun x => decide (x.1 = c.uid)) with
      | some x =>
        dsimp only
        simp only [List.any_cons, List.any_nil, Bool.or_false]
        rw [masked_eq (hf.us x (List.mem_of_find?_eq_some hx))]
      | none =>
        dsimp only
        by_cases hn : groupsP c a = []
        · rw [if_pos hn]
          have h1 := groupsP_nil.1 hn
          have h2 := groupsP_any (c := c) (a := a) (fun p => hasP (maskedP a.acc p) want)
          rw [hn, List.any_nil] at h2
          rw [h1, ← h2]
          simp
        · rw [if_neg hn, masked_any hf, groupsP_any]
          have h1 : (c.inB a.gid || a.acc.gs.any fun x => c.inB x.1) = true := by
            cases h : (c.inB a.gid || a.acc.gs.any fun x => c.inB x.1) with
            | true => rfl
            | false => exact absurd (groupsP_nil.2 h) hn
          rw [h1]; simp
theorem mayP_eq {c : Cred} {a : Attr} {dir : Bool} {want : Int} (hok : a.Ok) (hw : 0 ≤ want) : mayP c a dir want = mayR c a dir want := by
  unfold mayP mayR
  cases h1 : a.may with
  | false => simp
  | true =>
    by_cases h2 : want ≤ 7
    · rw [any_choices (Attr.fine hok h1) ⟨hw, h2⟩]
    · simp [h2]
end Go.Proofs.Ytjampjbhaekjbaa
