/- Who may do what: the plain laws on most, on less, on the group class, on groups and on others. It walks no code. -/
import Derived.Test.YtjampjbhaekjbaaGrantG
namespace Go.Proofs.Ytjampjbhaekjbaa
open Go Go.Par PH
def mostR (c : Cred) (a : Attr) (dir : Bool) : Int := (if mayR c a dir 1 then 1 else 0) + (if mayR c a dir 2 then 2 else 0) + (if mayR c a dir 4 then 4 else 0)
def mostN (f1 f2 f4 : Bool) : Fin 8 := (if f1 then 1 else 0) + (if f2 then 2 else 0) + (if f4 then 4 else 0)
theorem most_bits (f1 f2 f4 : Bool) : (if f1 = true then bits .or .u8 (if f2 = true then bits .or .u8 (if f4 = true then bits .or .u8 0 4 else 0) 2 else if f4 = true then bits .or .u8 0 4 else 0) 1 else if f2 = true then bits .or .u8 (if f4 = true then bits .or .u8 0 4 else 0) 2 else if f4 = true then bits .or .u8 0 4 else 0) = (((mostN f1 f2 f4).val : Nat) : Int) := by
  cases f1 <;> cases f2 <;> cases f4 <;> kernel_rfl
theorem mostP_n (c : Cred) (a : Attr) (dir : Bool) : mostP c a dir = (((mostN (mayP c a dir 1) (mayP c a dir 2) (mayP c a dir 4)).val : Nat) : Int) := by
  rw [← most_bits]; rfl
theorem mostR_n (c : Cred) (a : Attr) (dir : Bool) : mostR c a dir = (((mostN (mayR c a dir 1) (mayR c a dir 2) (mayR c a dir 4)).val : Nat) : Int) := by
  unfold mostR
  cases mayR c a dir 1 <;> cases mayR c a dir 2 <;> cases mayR c a dir 4 <;> rfl
theorem mostP_eq {c : Cred} {a : Attr} {dir : Bool} (hok : a.Ok) : mostP c a dir = mostR c a dir := by
  rw [mostP_n, mostR_n, mayP_eq hok (by decide), mayP_eq hok (by decide), mayP_eq hok (by decide)]
theorem choicesP_r7 {c : Cred} {a : Attr} {dir : Bool} (hf : Fine a.acc) : ∀ p ∈ choicesP c a dir, r7 p := by
  intro p hp
  unfold choicesP at hp
  have r1 : r7 1 := ⟨by decide, by decide⟩
  have r6 : r7 6 := ⟨by decide, by decide⟩
  have hu := permsP_mem (q := r7) hf.us
  have hg := permsP_mem (q := r7) hf.gs
  have hall : ∀ x ∈ [a.acc.o, a.acc.g, a.acc.t, unionP (permsP a.acc.us), unionP (permsP a.acc.gs)], r7 x := by
    intro x hx
    simp only [List.mem_cons, List.not_mem_nil, or_false] at hx
    rcases hx with rfl | rfl | rfl | rfl | rfl
    · exact hf.o
    · exact hf.g
    · exact hf.t
    · exact unionP_r7 hu
    · exact unionP_r7 hg
  split at hp
  · split at hp
    · rw [List.mem_singleton] at hp; subst hp; exact ⟨by decide, by decide⟩
    · rw [List.mem_singleton] at hp; subst hp; exact r7_or r6 (r7_and (unionP_r7 hall) r1)
  · split at hp
    · rw [List.mem_singleton] at hp; subst hp; exact hf.o
    · cases hx : a.acc.us.find? (fun x => decide (x.1 = c.uid)) with
      | some x =>
        rw [hx] at hp
        dsimp only at hp
        rw [List.mem_singleton] at hp; subst hp
        exact r7_and (hf.us x (List.mem_of_find?_eq_some hx)) (maskP_r7 hf)
      | none =>
        rw [hx] at hp
        dsimp only at hp
        split at hp
        · rw [List.mem_singleton] at hp; subst hp; exact hf.t
        · obtain ⟨y, hy, rfl⟩ := List.mem_map.1 hp
          exact r7_and (groupsP_r7 hf y hy) (maskP_r7 hf)
theorem mayP_iff {c : Cred} {a : Attr} {dir : Bool} {want : Int} : mayP c a dir want = true ↔ (c.gs.length ≤ 4 ∧ a.may = true ∧ want ≤ 7) ∧ ∃ p ∈ choicesP c a dir, hasP p want = true := by
  unfold mayP
  simp only [Bool.and_eq_true, decide_eq_true_eq, List.any_eq_true, and_assoc]
/-! Who is granted something is granted what is less. -/
theorem sub_ok {l w : Int} (hl : u8 l) (hw : r7 w) : r7 (bits .and .u8 l w) ∧ ∀ x, r7 x → hasP x w = true → hasP x (bits .and .u8 l w) = true := by
  obtain ⟨b, rfl⟩ := r7_fin hw
  have e := u8_and_nat l.toNat b.val (by have := hl.2; omega) (by omega)
  rw [Int.toNat_of_nonneg hl.1] at e
  have h1 : l.toNat &&& b.val ≤ b.val := Nat.and_le_right
  rw [e]
  refine ⟨⟨by omega, by omega⟩, fun x hx h => ?_⟩
  obtain ⟨a, rfl⟩ := r7_fin hx
  rw [has_nat] at h
  have h := of_decide_eq_true h
  have e2 := has_nat a ⟨l.toNat &&& b.val, by omega⟩
  rw [e2]
  refine decide_eq_true ?_
  dsimp only
  rw [Nat.and_comm l.toNat, ← Nat.and_assoc, h]
theorem less_may {c : Cred} {a : Attr} {dir : Bool} {w l : Int} (hok : a.Ok) (hl : u8 l) (hw : r7 w) (h : mayP c a dir w = true) : mayP c a dir (bits .and .u8 l w) = true := by
  obtain ⟨⟨h1, h2, h3⟩, p, hp, hh⟩ := mayP_iff.1 h
  obtain ⟨r1, r2⟩ := sub_ok hl hw
  exact mayP_iff.2 ⟨⟨h1, h2, r1.2⟩, p, hp, r2 p (choicesP_r7 (Attr.fine hok h2) p hp) hh⟩
theorem fin_most : ∀ p w : Fin 8, ∀ f1 f2 f4 : Bool, p.val &&& w.val = w.val → (p.val &&& 1 = 1 → f1 = true) → (p.val &&& 2 = 2 → f2 = true) → (p.val &&& 4 = 4 → f4 = true) → (mostN f1 f2 f4).val &&& w.val = w.val := by decide +kernel
theorem most_may {c : Cred} {a : Attr} {dir : Bool} {w : Int} (hok : a.Ok) (hw : r7 w) (h : mayP c a dir w = true) : bits .and .u8 (mostP c a dir) w = w := by
  obtain ⟨⟨h1, h2, h3⟩, p, hp, hh⟩ := mayP_iff.1 h
  obtain ⟨x, rfl⟩ := r7_fin (choicesP_r7 (Attr.fine hok h2) p hp)
  obtain ⟨y, rfl⟩ := r7_fin hw
  rw [has_nat] at hh
  rw [mostP_n, and_fin]
  refine congrArg _ (fin_most x y _ _ _ (of_decide_eq_true hh) (fun e => ?_) (fun e => ?_) (fun e => ?_))
  · exact mayP_iff.2 ⟨⟨h1, h2, by decide⟩, _, hp, by have := has_nat x 1; exact this.trans (decide_eq_true e)⟩
  · exact mayP_iff.2 ⟨⟨h1, h2, by decide⟩, _, hp, by have := has_nat x 2; exact this.trans (decide_eq_true e)⟩
  · exact mayP_iff.2 ⟨⟨h1, h2, by decide⟩, _, hp, by have := has_nat x 4; exact this.trans (decide_eq_true e)⟩
theorem mostP_r7 (c : Cred) (a : Attr) (dir : Bool) : r7 (mostP c a dir) := by rw [mostP_n]; exact r7_of _
/-! The group class bounds whom the list names. -/
def namedP (c : Cred) (a : Attr) : Bool := c.inB a.gid || (a.acc.us.any fun x => decide (x.1 = c.uid)) || (a.acc.gs.any fun x => c.inB x.1)
def clsP (a : Acl) : Int := if a.hm then a.m else a.g
theorem has_masked {a : Acl} {x w : Int} (hf : Fine a) (hx : r7 x) (hw : r7 w) (h : hasP (bits .and .u8 x (maskP a)) w = true) (hm : a.hm = true) : hasP (clsP a) w = true := by
  rw [has_and hx (maskP_r7 hf) hw] at h
  unfold maskP at h
  unfold clsP
  rw [if_pos hm] at h ⊢
  simp only [Bool.and_eq_true] at h
  exact h.2
theorem class_may {c : Cred} {a : Attr} {dir : Bool} {w : Int} (hok : a.Ok) (hw : 0 ≤ w) (h0 : c.uid ≠ 0) (h1 : c.uid ≠ a.uid) (h : mayP c a dir w = true) : hasP (if namedP c a then clsP a.acc else a.acc.t) w = true := by
  obtain ⟨⟨g1, g2, g3⟩, p, hp, hh⟩ := mayP_iff.1 h
  have hf := Attr.fine hok g2
  have hw7 : r7 w := ⟨hw, g3⟩
  unfold choicesP at hp
  rw [if_neg h0, if_neg h1] at hp
  cases hx : a.acc.us.find? (fun x => decide (x.1 = c.uid)) with
  | some x =>
    rw [hx] at hp
    dsimp only at hp
    rw [List.mem_singleton] at hp; subst hp
    have hmem := List.mem_of_find?_eq_some hx
    have hn : namedP c a = true := by
      unfold namedP
      have : (a.acc.us.any fun x => decide (x.1 = c.uid)) = true := List.any_eq_true.2 ⟨x, hmem, List.find?_some (p := fun x : Int × Int => decide (x.1 = c.uid)) hx⟩
      rw [this]; simp
    rw [if_pos hn]
    cases hm : a.acc.hm with
    | true => exact has_masked hf (hf.us x hmem) hw7 hh hm
    | false => rw [(hf.lone hm).1] at hmem; simp at hmem
  | none =>
    rw [hx] at hp
    dsimp only at hp
    have hnu : (a.acc.us.any fun x => decide (x.1 = c.uid)) = false := by
      rw [List.any_eq_false]
      intro y hy
      have := List.find?_eq_none.1 hx y hy
      simpa using this
    by_cases hn : groupsP c a = []
    · rw [if_pos hn, List.mem_singleton] at hp; subst hp
      have h2 := groupsP_nil.1 hn
      rw [Bool.or_eq_false_iff] at h2
      have : namedP c a = false := by unfold namedP; rw [hnu, h2.1, h2.2]; rfl
      rw [this, if_neg (by decide)]
      exact hh
    · rw [if_neg hn] at hp
      obtain ⟨y, hy, rfl⟩ := List.mem_map.1 hp
      have h1 : (c.inB a.gid || a.acc.gs.any fun x => c.inB x.1) = true := by
        cases h : (c.inB a.gid || a.acc.gs.any fun x => c.inB x.1) with
        | true => rfl
        | false => exact absurd (groupsP_nil.2 h) hn
      have hnm : namedP c a = true := by unfold namedP; rw [hnu, Bool.or_false]; exact h1
      rw [if_pos hnm]
      cases hm : a.acc.hm with
      | true => exact has_masked hf (groupsP_r7 hf y hy) hw7 hh hm
      | false =>
        unfold groupsP at hy
        rw [(hf.lone hm).2] at hy
        have hyg : y = a.acc.g := by
          unfold permsP at hy
          simp only [List.filter_nil, List.map_nil, List.nil_append] at hy
          split at hy
          · simpa using hy
          · simp at hy
        subst hyg
        rw [masked_eq hf.g] at hh
        unfold maskedP at hh
        unfold clsP
        rw [hm] at hh ⊢
        exact hh
/-! What groups he is in is all that counts of them. -/
theorem choicesP_congr {c d : Cred} {a : Attr} {dir : Bool} (hu : c.uid = d.uid) (hi : ∀ g, c.inB g = d.inB g) : choicesP c a dir = choicesP d a dir := by
  have hf : c.inB = d.inB := funext hi
  unfold choicesP groupsP
  rw [hu, hf]
theorem mayP_congr {c d : Cred} {a : Attr} {dir : Bool} {w : Int} (hu : c.uid = d.uid) (hi : ∀ g, c.inB g = d.inB g) (hl : c.gs.length ≤ 4 ↔ d.gs.length ≤ 4) : mayP c a dir w = mayP d a dir w := by
  unfold mayP
  rw [choicesP_congr hu hi, decide_eq_decide.2 hl]
theorem mostP_congr {c d : Cred} {a : Attr} {dir : Bool} (hu : c.uid = d.uid) (hi : ∀ g, c.inB g = d.inB g) (hl : c.gs.length ≤ 4 ↔ d.gs.length ≤ 4) : mostP c a dir = mostP d a dir := by
  rw [mostP_n, mostP_n, mayP_congr hu hi hl, mayP_congr hu hi hl, mayP_congr hu hi hl]
theorem inB_congr {c d : Cred} (h : ∀ g, (c.gid = g ∨ g ∈ c.gs) ↔ (d.gid = g ∨ g ∈ d.gs)) (g : Int) : c.inB g = d.inB g := by
  unfold Cred.inB
  rw [← Bool.decide_or, ← Bool.decide_or, decide_eq_decide]
  exact h g
theorem in_turned (c : Cred) (k : Nat) (g : Int) : Cred.inB ⟨c.uid, c.gid, c.gs.drop k ++ c.gs.take k, c.hi⟩ g = c.inB g :=
  inB_congr (fun g => by
    have : g ∈ c.gs.drop k ++ c.gs.take k ↔ g ∈ c.gs := by
      rw [List.mem_append, or_comm, ← List.mem_append, List.take_append_drop]
    dsimp only
    rw [this]) g
theorem in_twice (c : Cred) (k : Nat) (hk : k < c.gs.length) (g : Int) : Cred.inB ⟨c.uid, c.gid, c.gs ++ [c.gs[k]], c.hi⟩ g = c.inB g :=
  inB_congr (fun g => by
    have : g ∈ c.gs ++ [c.gs[k]] ↔ g ∈ c.gs := by
      rw [List.mem_append, List.mem_singleton]
      constructor
      · rintro (h | rfl)
        · exact h
        · exact List.getElem_mem hk
      · exact Or.inl
    dsimp only
    rw [this]) g
theorem in_own (c : Cred) (g : Int) : Cred.inB ⟨c.uid, c.gid, c.gid :: c.gs, c.hi⟩ g = c.inB g :=
  inB_congr (fun g => by
    dsimp only
    rw [List.mem_cons]
    constructor
    · rintro (h | rfl | h)
      · exact Or.inl h
      · exact Or.inl rfl
      · exact Or.inr h
    · rintro (h | h)
      · exact Or.inl h
      · exact Or.inr (Or.inr h)) g
/-! What others have counts for nobody who is named. -/
def Attr.oth (a : Attr) (t : Int) : Attr := { a with acc := { a.acc with t := t } }
theorem other_may {c : Cred} {a : Attr} {dir : Bool} {w t : Int} (h0 : c.uid ≠ 0) (h1 : c.inB a.gid = true ∨ c.uid = a.uid) (hm : a.may = (a.oth t).may) : mayP c a dir w = mayP c (a.oth t) dir w := by
  have e : choicesP c a dir = choicesP c (a.oth t) dir := by
    unfold choicesP
    rw [if_neg h0, if_neg h0]
    by_cases hu : c.uid = a.uid
    · rw [if_pos hu, if_pos (show c.uid = (a.oth t).uid from hu)]; rfl
    · rw [if_neg hu, if_neg (show ¬ c.uid = (a.oth t).uid from hu)]
      have e1 : (a.oth t).acc.us = a.acc.us := rfl
      rw [e1]
      cases a.acc.us.find? (fun x => decide (x.1 = c.uid)) with
      | some x => rfl
      | none =>
        dsimp only
        have e2 : groupsP c (a.oth t) = groupsP c a := rfl
        rw [e2]
        have hn : ¬ groupsP c a = [] := fun h => by
          have h2 := groupsP_nil.1 h
          rw [Bool.or_eq_false_iff] at h2
          rcases h1 with h1 | h1
          · rw [h2.1] at h1; cases h1
          · exact hu h1
        rw [if_neg hn, if_neg hn]; rfl
  unfold mayP
  rw [e, hm]
end Go.Proofs.Ytjampjbhaekjbaa
