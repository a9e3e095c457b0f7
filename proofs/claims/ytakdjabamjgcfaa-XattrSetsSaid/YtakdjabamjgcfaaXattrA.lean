/- Values under keys: keys in order, lists with a key set and without one; which keys may be. -/
import Derived.Test.YtakdjabamjgcfaaAttrD
import Derived.Test.YtakdjabamjgcfaaEngT
namespace Go.Proofs.Ytakdjabamjgcfaa
set_option maxRecDepth 4000
open Go Go.Par PH
abbrev Xs := List (ByteArray × ByteArray)
def encE (x : Int) : List Value := [.int .i64 x]
theorem lenE (l : List Int) : ∀ x ∈ l, (encE x).length = 1 := fun _ _ => rfl
/-- Which lists may be. -/
def mayX (l : Xs) : Bool := decide (l.length ≤ 4) && allB l.length (goodX l)
def attrX (l : Xs) : Attr := { attr0 with xs := l }
theorem attrX_may (l : Xs) : (attrX l).may = mayX l := by
  have e : (attrX l).may = (decide ((0 : Int) ≤ 7) && acl0.may && decide (l.length ≤ 4) && decide (acl0 = acl0) && allB l.length (goodX l)) := rfl
  rw [e, acl0_may]
  simp only [mayX, decide_true, Bool.true_and, Bool.and_true, show (0 : Int) ≤ 7 from by decide]
theorem z8 : u8 0 := ⟨by decide, by decide⟩
theorem z16 : u16 0 := ⟨by decide, by decide⟩
theorem acl0_ok : acl0.Ok := by
  constructor <;> first | exact z8 | (intro x hx; cases hx)
theorem attrX_ok (l : Xs) : (attrX l).Ok := ⟨z8, z16, z16, acl0_ok, acl0_ok⟩
/-- Short enough to be looked at. -/
structure tameX (l : Xs) : Prop where
  len : l.length ≤ 1000
  ks : ∀ x ∈ l, x.1.size ≤ 1000000
theorem tameX.small {l : Xs} (h : tameX l) : (attrX l).small := ⟨⟨Nat.zero_le _, Nat.zero_le _⟩, ⟨Nat.zero_le _, Nat.zero_le _⟩, h.len, h.ks⟩
/-- Which keys may be. -/
def keyE (k : ByteArray) : Int := if has0 k = true ∨ k.size = 0 then 622 else if 8 < k.size then 634 else 0
/-- How many keys are ahead of one. -/
def lbX : Xs → ByteArray → Nat
  | [], _ => 0
  | x :: l, k => if ltK x.1 k then lbX l k + 1 else 0
def isX (l : Xs) (k : ByteArray) : Bool := l.any fun x => decide (x.1 = k)
def insX : Xs → ByteArray → ByteArray → Xs
  | [], k, v => [(k, v)]
  | x :: l, k, v => if ltK x.1 k then x :: insX l k v else if x.1 = k then (k, v) :: l else (k, v) :: x :: l
def delX : Xs → ByteArray → Xs
  | [], _ => []
  | x :: l, k => if x.1 = k then l else x :: delX l k
def getX : Xs → ByteArray → Option ByteArray
  | [], _ => none
  | x :: l, k => if x.1 = k then some x.2 else getX l k
/-- In order. -/
def srt : Xs → Prop
  | [] => True
  | x :: l => (∀ y ∈ l, ltK x.1 y.1 = true) ∧ srt l
theorem lbX_le (l : Xs) (k : ByteArray) : lbX l k ≤ l.length := by
  induction l with
  | nil => simp [lbX]
  | cons x l ih => simp only [lbX]; split <;> simp <;> omega
theorem lbX_t {x : ByteArray × ByteArray} {l : Xs} {k : ByteArray} (h : ltK x.1 k = true) : lbX (x :: l) k = lbX l k + 1 := if_pos h
theorem lbX_f {x : ByteArray × ByteArray} {l : Xs} {k : ByteArray} (h : ¬ ltK x.1 k = true) : lbX (x :: l) k = 0 := if_neg h
theorem lbX_lt {l : Xs} {k : ByteArray} (hs : srt l) {i : Nat} (hi : i < l.length) : ltK l[i].1 k = true ↔ i < lbX l k := by
  induction l generalizing i with
  | nil => simp at hi
  | cons x l ih =>
    by_cases h : ltK x.1 k = true
    · rw [lbX_t h]
      cases i with
      | zero => simp [h]
      | succ i =>
        simp only [List.length_cons] at hi
        rw [List.getElem_cons_succ, ih hs.2 (by omega)]
        omega
    · rw [lbX_f h]
      cases i with
      | zero => simp [h]
      | succ i =>
        simp only [List.length_cons] at hi
        rw [List.getElem_cons_succ]
        refine ⟨fun hy => absurd (ltK_trans (hs.1 _ (List.getElem_mem (by omega))) hy) h, fun hh => by omega⟩
def eqX (o : Option (ByteArray × ByteArray)) (k : ByteArray) : Bool := match o with | some x => decide (x.1 = k) | none => false
theorem isX_at {l : Xs} {k : ByteArray} (hs : srt l) : isX l k = eqX l[lbX l k]? k := by
  induction l with
  | nil => rfl
  | cons x l ih =>
    by_cases h : ltK x.1 k = true
    · have hne : ¬ x.1 = k := fun e => by rw [e, ltK_irrefl] at h; cases h
      rw [lbX_t h, List.getElem?_cons_succ, ← ih hs.2]
      simp [isX, hne]
    · rw [lbX_f h, List.getElem?_cons_zero]
      by_cases e : x.1 = k
      · simp [isX, eqX, e]
      · have : (l.any fun x => decide (x.1 = k)) = false := by
          rw [List.any_eq_false]
          intro y hy
          simp only [decide_eq_true_eq]
          intro hyk
          have h1 := hs.1 y hy
          rw [hyk] at h1
          exact h h1
        simp [isX, eqX, e, this]
theorem insX_cut (l : Xs) (k v : ByteArray) (hs : srt l) : insX l k v = l.take (lbX l k) ++ (k, v) :: l.drop (lbX l k + (if isX l k then 1 else 0)) := by
  induction l with
  | nil => rfl
  | cons x l ih =>
    have hat := isX_at (k := k) hs
    by_cases h : ltK x.1 k = true
    · have hne : ¬ x.1 = k := fun e => by rw [e, ltK_irrefl] at h; cases h
      have e1 : isX (x :: l) k = isX l k := by simp [isX, hne]
      rw [lbX_t h, e1]
      simp only [insX, if_pos h, List.take_succ_cons, List.cons_append]
      rw [ih hs.2, Nat.add_right_comm, List.drop_succ_cons]
    · rw [lbX_f h, List.getElem?_cons_zero] at hat
      rw [lbX_f h, hat]
      simp only [insX, if_neg h, List.take_zero, List.nil_append, eqX]
      by_cases e : x.1 = k <;> simp [e]
theorem delX_cut (l : Xs) (k : ByteArray) (hs : srt l) (hk : isX l k = true) : delX l k = l.take (lbX l k) ++ l.drop (lbX l k + 1) := by
  induction l with
  | nil => simp [isX] at hk
  | cons x l ih =>
    have hat := isX_at (k := k) hs
    rw [hk] at hat
    by_cases h : ltK x.1 k = true
    · have hne : ¬ x.1 = k := fun e => by rw [e, ltK_irrefl] at h; cases h
      have e1 : isX (x :: l) k = isX l k := by simp [isX, hne]
      rw [lbX_t h]
      simp only [delX, if_neg hne, List.take_succ_cons, List.cons_append, List.drop_succ_cons]
      rw [ih hs.2 (by rw [← e1]; exact hk)]
    · rw [lbX_f h, List.getElem?_cons_zero] at hat
      rw [lbX_f h]
      have e : x.1 = k := by simpa [eqX] using hat.symm
      simp [delX, e]
theorem srt_of_may {l : Xs} (h : mayX l = true) : srt l := by
  simp only [mayX, Bool.and_eq_true] at h
  have hg := allB_iff.1 h.2
  clear h
  have hadj : ∀ i (hi : i + 1 < l.length), ltK (l[i]'(by omega)).1 l[i + 1].1 = true := by
    intro i hi
    have := hg (i + 1) hi
    simp only [goodX, dif_pos hi, Bool.and_eq_true, Bool.or_eq_true, decide_eq_true_eq, Bool.not_eq_true'] at this
    rcases this.2 with h0 | h0
    · omega
    · simp only [Nat.add_sub_cancel] at h0
      unfold strGe at h0
      unfold ltK
      simpa using h0
  clear hg
  induction l with
  | nil => trivial
  | cons x l ih =>
    have ih' := ih (fun i hi => by have := hadj (i + 1) (by simp; omega); simpa using this)
    refine ⟨?_, ih'⟩
    cases l with
    | nil => intro y hy; cases hy
    | cons z l =>
      have h0 := hadj 0 (by simp)
      simp only [List.getElem_cons_zero, Nat.zero_add, List.getElem_cons_succ] at h0
      intro y hy
      rcases List.mem_cons.1 hy with e | hy
      · rw [e]; exact h0
      · exact ltK_trans h0 (ih'.1 y hy)
attribute [local irreducible] W WL Does Exec Body Then inBlk RG WR row obj pblk
theorem mayX_fn (h : PH) (l : Xs) (v : Value) (hv : Sl encX 2 h v l) (hl : tameX l) : Does Try.prog 22 [v] [] h (Ret fun r _ _ => r = .int .i64 (if mayX l then 0 else 622)) := by
  obtain ⟨a, cap, rfl⟩ := hv.shape
  have hc := attrCheck_fn h (attrX l) (attrV (attrX l) (.slice none 0 0) (.slice none 0 0) (.slice none 0 0) (.slice none 0 0) (.slice a l.length cap)) ⟨_, _, _, _, _, rfl, Sl.nil, Sl.nil, Sl.nil, Sl.nil, hv⟩ hl.small (attrX_ok l)
  rw [attrX_may] at hc
  refine Does_of_W Try.func22 rfl (n := 6) rfl rfl (by simp only [argE] <;> rfl) ?_
  (repeat (first | refine W_seq ?_))
  skip
  refine W_region rfl ?_
  refine WL_is (X_assign rfl rfl) rfl rfl rfl ?_
  (repeat (first | refine WL_nil ?_ | refine Then_normal ?_ | refine W_seq ?_))
  skip
  refine W_region rfl ?_
  refine WL_is (X_move rfl rfl) rfl rfl rfl ?_
  refine WL_is (X_build rfl rfl rfl) rfl rfl rfl ?_
  refine WL_is (X_callv rfl rfl rfl Try.func29 rfl (by assumption)) rfl rfl rfl ?_
  refine WL_is (X_assign rfl rfl) rfl rfl rfl ?_
  (repeat (first | refine WL_nil ?_ | refine Then_normal ?_ | refine W_ret ?_))
  refine Body_end rfl rfl rfl (SubR.none _) ?_
  rfl
theorem mayX_ref (h : PH) (l : Xs) (v : Value) (hv : Sl encX 2 h v l) (hl : tameX l) : Does Try.prog 19 [v] [] h (Ret fun r _ _ => r = .bool (mayX l)) := by
  obtain ⟨a, cap, rfl⟩ := hv.shape
  have hc := attrMay_ref h (attrX l) (attrV (attrX l) (.slice none 0 0) (.slice none 0 0) (.slice none 0 0) (.slice none 0 0) (.slice a l.length cap)) ⟨_, _, _, _, _, rfl, Sl.nil, Sl.nil, Sl.nil, Sl.nil, hv⟩ hl.small (attrX_ok l)
  rw [attrX_may] at hc
  refine Does_of_W Try.func19 rfl (n := 6) rfl rfl (by simp only [argE] <;> rfl) ?_
  (repeat (first | refine W_seq ?_))
  skip
  refine W_region rfl ?_
  refine WL_is (X_assign rfl rfl) rfl rfl rfl ?_
  (repeat (first | refine WL_nil ?_ | refine Then_normal ?_ | refine W_seq ?_))
  skip
  refine W_region rfl ?_
  refine WL_is (X_move rfl rfl) rfl rfl rfl ?_
  refine WL_is (X_build rfl rfl rfl) rfl rfl rfl ?_
  refine WL_is (X_callv rfl rfl rfl Try.func28 rfl (by assumption)) rfl rfl rfl ?_
  refine WL_is (X_assign rfl rfl) rfl rfl rfl ?_
  (repeat (first | refine WL_nil ?_ | refine Then_normal ?_ | refine W_ret ?_))
  refine Body_end rfl rfl rfl (SubR.none _) ?_
  rfl
end Go.Proofs.Ytakdjabamjgcfaa
