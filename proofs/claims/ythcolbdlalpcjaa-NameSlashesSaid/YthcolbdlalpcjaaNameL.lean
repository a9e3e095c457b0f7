/- Names and paths: the laws, with no program in sight. -/
import Derived.Test.YthcolbdlalpcjaaNameK
namespace Go.Proofs.Ythcolbdlalpcjaa
set_option maxRecDepth 4000
open Go Go.Par PH
def emit (cur : Bs) : List Bs := if cur = [] then [] else [cur]
theorem pg_47 (cur l : Bs) : partsG cur (47 :: l) = emit cur ++ partsL l := by
  unfold emit partsL
  simp only [partsG, if_true]
  split <;> simp
theorem pg_nil (cur : Bs) : partsG cur [] = emit cur := rfl
theorem pg_on : ∀ (x cur l : Bs), ¬ (47 : UInt8) ∈ x → partsG cur (x ++ l) = partsG (cur ++ x) l
  | [], cur, l, _ => by simp
  | c :: x, cur, l, h => by
    simp only [List.mem_cons, not_or] at h
    have hc : ¬ c = 47 := fun e => h.1 e.symm
    simp only [List.cons_append, partsG, if_neg hc]
    rw [pg_on x (cur ++ [c]) l h.2, List.append_assoc]; rfl
theorem pg_end : ∀ (l cur : Bs), partsG cur (l ++ [47]) = partsG cur l
  | [], cur => by rw [List.nil_append, pg_47]; simp [partsL, partsG, emit]
  | c :: l, cur => by
    by_cases hc : c = 47
    · subst hc
      rw [List.cons_append, pg_47, pg_47]
      unfold partsL
      rw [pg_end l []]
    · simp only [List.cons_append, partsG, if_neg hc]
      exact pg_end l _
theorem pl_47 (l : Bs) : partsL (47 :: l) = partsL l := by
  show partsG [] (47 :: l) = _
  rw [pg_47]; simp [emit]
theorem pl_many (m : Nat) (l : Bs) : partsL (List.replicate m 47 ++ l) = partsL l := by
  induction m with
  | zero => simp
  | succ m ih => rw [List.replicate_succ, List.cons_append, pl_47, ih]
theorem pg_many : ∀ (a cur b : Bs) (m : Nat), partsG cur (a ++ (List.replicate m 47 ++ 47 :: b)) = partsG cur (a ++ 47 :: b)
  | [], cur, b, m => by
    rw [List.nil_append, List.nil_append, pg_47]
    cases m with
    | zero => simp [pg_47]
    | succ m => rw [List.replicate_succ, List.cons_append, pg_47, pl_many, pl_47]
  | c :: a, cur, b, m => by
    by_cases hc : c = 47
    · subst hc
      rw [List.cons_append, List.cons_append, pg_47, pg_47]
      unfold partsL
      rw [pg_many a [] b m]
    · simp only [List.cons_append, partsG, if_neg hc]
      exact pg_many a _ b m
/-- What a part is like. -/
def okP (x : Bs) : Prop := x ≠ [] ∧ ¬ (47 : UInt8) ∈ x
theorem pg_ok : ∀ (l cur : Bs), ¬ (47 : UInt8) ∈ cur → ∀ x ∈ partsG cur l, okP x ∧ ∀ c ∈ x, c ∈ cur ∨ c ∈ l
  | [], cur, h, x, hx => by
    simp only [partsG] at hx
    split at hx
    · cases hx
    · next hn =>
      rw [List.mem_singleton] at hx
      subst hx
      exact ⟨⟨hn, h⟩, fun c hc => .inl hc⟩
  | c :: l, cur, h, x, hx => by
    by_cases hc : c = 47
    · subst hc
      rw [pg_47] at hx
      rcases List.mem_append.1 hx with hx | hx
      · unfold emit at hx
        split at hx
        · cases hx
        · next hn =>
          rw [List.mem_singleton] at hx
          subst hx
          exact ⟨⟨hn, h⟩, fun c hc => .inl hc⟩
      · obtain ⟨h1, h2⟩ := pg_ok l [] (by simp) x hx
        refine ⟨h1, fun c hc => ?_⟩
        rcases h2 c hc with e | e
        · cases e
        · exact .inr (by simp [e])
    · simp only [partsG, if_neg hc] at hx
      have h' : ¬ (47 : UInt8) ∈ cur ++ [c] := by
        simp only [List.mem_append, List.mem_singleton, not_or]
        exact ⟨h, fun e => hc e.symm⟩
      obtain ⟨h1, h2⟩ := pg_ok l (cur ++ [c]) h' x hx
      refine ⟨h1, fun d hd => ?_⟩
      rcases h2 d hd with e | e
      · rcases List.mem_append.1 e with e | e
        · exact .inl e
        · exact .inr (by simp at e; simp [e])
      · exact .inr (by simp [e])
theorem pl_ok {l : Bs} {x : Bs} (hx : x ∈ partsL l) : okP x ∧ ∀ c ∈ x, c ∈ l := by
  obtain ⟨h1, h2⟩ := pg_ok l [] (by simp) x hx
  exact ⟨h1, fun c hc => by rcases h2 c hc with e | e; · cases e
                            · exact e⟩
theorem tail_le (P : List Bs) : (tailJ P).length ≤ 1 + (joinP P).length := by
  cases P with
  | nil => simp [tailJ]
  | cons x m =>
    unfold tailJ joinP
    simp only [List.flatMap_cons, List.length_append, List.length_cons]
    unfold tailJ; omega
theorem join_le : ∀ (l cur : Bs), (joinP (partsG cur l)).length ≤ cur.length + l.length
  | [], cur => by simp only [partsG]; split <;> simp [joinP, tailJ]
  | c :: l, cur => by
    by_cases hc : c = 47
    · subst hc
      have ih := join_le l []
      have ht := tail_le (partsG [] l)
      simp only [partsG, if_true, List.length_nil, List.length_cons] at ih ht ⊢
      split
      · omega
      · simp only [joinP, List.length_append]; omega
    · simp only [partsG, if_neg hc]
      have ih := join_le l (cur ++ [c])
      simp only [List.length_append, List.length_cons, List.length_nil] at ih ⊢
      omega
theorem pg_join : ∀ (ps : List Bs) (x post : Bs), (post = [] ∨ post = [47]) → x ≠ [] → (∀ y ∈ ps, okP y) → partsG x (tailJ ps ++ post) = x :: ps
  | [], x, post, hp, hx, _ => by
    rcases hp with rfl | rfl
    · simp [tailJ, partsG, hx]
    · rw [show tailJ [] = [] from rfl, List.nil_append, pg_47]; simp [emit, hx, partsL, partsG]
  | y :: ps, x, post, hp, hx, ho => by
    have h1 := ho y (by simp)
    have e : tailJ (y :: ps) ++ post = 47 :: (y ++ (tailJ ps ++ post)) := by simp [tailJ]
    rw [e, pg_47]
    unfold partsL
    rw [pg_on y [] _ h1.2, List.nil_append, pg_join ps y post hp h1.1 (fun z hz => ho z (by simp [hz]))]
    simp [emit, hx]
theorem pl_join (ps : List Bs) (post : Bs) (hp : post = [] ∨ post = [47]) (ho : ∀ y ∈ ps, okP y) : partsL (joinP ps ++ post) = ps := by
  cases ps with
  | nil =>
    rcases hp with rfl | rfl
    · rfl
    · show partsL [47] = []
      rw [pl_47]; rfl
  | cons x l =>
    have h1 := ho x (by simp)
    unfold partsL joinP
    rw [List.append_assoc, pg_on x [] _ h1.2, List.nil_append]
    exact pg_join l x post hp h1.1 (fun z hz => ho z (by simp [hz]))
theorem tail_last : ∀ (l : List Bs), l ≠ [] → ∃ q, tailJ l = q ++ l.getLastD []
  | [], h => absurd rfl h
  | [x], _ => ⟨[47], by simp [tailJ]⟩
  | x :: y :: l, _ => by
    obtain ⟨q, hq⟩ := tail_last (y :: l) (by simp)
    refine ⟨47 :: x ++ q, ?_⟩
    have e : tailJ (x :: y :: l) = 47 :: x ++ tailJ (y :: l) := by simp [tailJ]
    rw [e, hq, List.append_assoc]
    simp
theorem join_last (l : List Bs) (h : l ≠ []) : ∃ q, joinP l = q ++ l.getLastD [] := by
  cases l with
  | nil => exact absurd rfl h
  | cons x l =>
    cases l with
    | nil => exact ⟨[], by simp [joinP, tailJ]⟩
    | cons y l =>
      obtain ⟨q, hq⟩ := tail_last (y :: l) (by simp)
      refine ⟨x ++ q, ?_⟩
      show x ++ tailJ (y :: l) = _
      rw [hq, List.append_assoc]
      simp
theorem lastB_app (a x : Bs) (h : x ≠ []) : lastB (a ++ x) = lastB x := by
  have h0 : 0 < x.length := by cases x with | nil => exact absurd rfl h | cons => simp
  rw [lastB_at (by simp; omega), lastB_at h0]
  congr 1
  have : (a ++ x).length - 1 = a.length + (x.length - 1) := by simp; omega
  simp only [this]
  rw [List.getElem_append_right (by omega)]
  simp
theorem lastB_no {x : Bs} (h : okP x) : lastB x = false := by
  have h0 : 0 < x.length := by cases x with | nil => exact absurd rfl h.1 | cons => simp
  rw [lastB_at h0, decide_eq_false]
  intro e
  exact h.2 (e ▸ List.getElem_mem _)
theorem lastB_split {l : Bs} (h : lastB l = true) : ∃ m, l = m ++ [47] := by
  unfold lastB at h
  refine ⟨l.take (l.length - 1), ?_⟩
  have h2 : l.drop (l.length - 1) = [47] := by simpa using h
  rw [← h2, List.take_append_drop]
theorem headB_split {l : Bs} (h : headB l = true) : ∃ m, l = 47 :: m := by
  cases l with
  | nil => simp [headB] at h
  | cons c m => simp [headB] at h; exact ⟨m, by rw [h]⟩
/-- What a good path is. -/
theorem split_good {l : Bs} (h : splitE l = 0) : l ≠ [] ∧ l.length ≤ 64 ∧ ¬ (0 : UInt8) ∈ l ∧ (partsL l).any bigB = false := by
  unfold splitE at h
  split at h
  · cases h
  · next h0 =>
    split at h
    · cases h
    · next h1 =>
      split at h
      · cases h
      · next h2 =>
        split at h
        · cases h
        · next h3 => exact ⟨h0, by omega, h2, by simpa using h3⟩
theorem split_of {l : Bs} (h0 : l ≠ []) (h1 : l.length ≤ 64) (h2 : ¬ (0 : UInt8) ∈ l) (h3 : (partsL l).any bigB = false) : splitE l = 0 := by
  unfold splitE
  rw [if_neg h0, if_neg (by omega), if_neg h2, h3]; rfl
theorem part_check {l : Bs} (h : splitE l = 0) {x : Bs} (hx : x ∈ partsL l) : checkE x = 0 := by
  obtain ⟨-, -, h2, h3⟩ := split_good h
  obtain ⟨h4, h5⟩ := pl_ok hx
  rw [List.any_eq_false] at h3
  have hb := h3 x hx
  have hb' : ¬ 16 < x.length := by simpa [bigB] using hb
  unfold checkE
  rw [if_neg h4.1, if_neg (by rintro (e | e); · exact h4.2 e
                              · exact h2 (h5 _ e)), if_neg hb']
def pthOf (l : Bs) : Pth := ⟨headB l, dirB l, partsL l⟩
theorem dirEnd_last {l : Bs} (h : dirEnd (pthOf l) = true) : lastB l = true ∧ 0 < (partsL l).length := by
  unfold dirEnd pthOf dirB at h
  simp only [Bool.and_eq_true, Bool.or_eq_true, decide_eq_true_eq, Bool.not_eq_true'] at h
  obtain ⟨⟨h1, h2⟩, h3⟩ := h
  refine ⟨?_, h2⟩
  rcases h1 with (h1 | h1) | h1
  · exact h1
  · rw [h1] at h2; simp at h2
  · rw [h3] at h1; cases h1
theorem back_len (l : Bs) : (joinR (pthOf l)).length ≤ l.length := by
  unfold joinR
  have hB : ∀ m : Bs, (joinP (partsL m) ++ (if dirEnd (pthOf l) = true then [47] else [])).length ≤ m.length → True := fun _ _ => trivial
  clear hB
  by_cases hd : dirEnd (pthOf l) = true
  · obtain ⟨h1, h2⟩ := dirEnd_last hd
    obtain ⟨m, rfl⟩ := lastB_split h1
    rw [if_pos hd]
    have e : partsL (m ++ [47]) = partsL m := pg_end m []
    unfold pthOf at *
    dsimp only at *
    rw [e] at *
    by_cases hh : headB (m ++ [47]) = true
    · rw [if_pos hh]
      cases m with
      | nil => simp [partsL, partsG] at h2
      | cons c m =>
        have hc : c = 47 := by simpa [headB] using hh
        subst hc
        rw [pl_47] at *
        have := join_le m []
        change (joinP (partsL m)).length ≤ _ at this
        simp only [List.length_append, List.length_cons, List.length_nil] at *
        omega
    · rw [if_neg hh]
      have := join_le m []
      change (joinP (partsL m)).length ≤ _ at this
      simp only [List.length_append, List.length_cons, List.length_nil] at *
      omega
  · rw [if_neg hd]
    unfold pthOf
    dsimp only
    by_cases hh : headB l = true
    · rw [if_pos hh]
      obtain ⟨m, rfl⟩ := headB_split hh
      rw [pl_47]
      have := join_le m []
      change (joinP (partsL m)).length ≤ _ at this
      simp only [List.length_append, List.length_cons, List.length_nil] at *
      omega
    · rw [if_neg hh]
      have := join_le l []
      change (joinP (partsL l)).length ≤ _ at this
      simp only [List.length_append, List.length_nil] at *
      omega
theorem mem_tail {c : UInt8} : ∀ {l : List Bs}, c ∈ tailJ l → c = 47 ∨ ∃ x ∈ l, c ∈ x
  | [], h => by simp [tailJ] at h
  | x :: l, h => by
    have e : tailJ (x :: l) = 47 :: (x ++ tailJ l) := by simp [tailJ]
    rw [e, List.mem_cons, List.mem_append] at h
    rcases h with h | h | h
    · exact .inl h
    · exact .inr ⟨x, by simp, h⟩
    · rcases mem_tail h with h | ⟨y, hy, h⟩
      · exact .inl h
      · exact .inr ⟨y, by simp [hy], h⟩
theorem mem_join {c : UInt8} {l : List Bs} (h : c ∈ joinP l) : c = 47 ∨ ∃ x ∈ l, c ∈ x := by
  cases l with
  | nil => cases h
  | cons x l =>
    rcases List.mem_append.1 h with h | h
    · exact .inr ⟨x, by simp, h⟩
    · rcases mem_tail h with h | ⟨y, hy, h⟩
      · exact .inl h
      · exact .inr ⟨y, by simp [hy], h⟩
/-- There and back. -/
theorem back_same {l : Bs} (h : splitE l = 0) (hn : ¬ (headB l = false ∧ partsL l = [])) : splitE (joinR (pthOf l)) = 0 ∧ pthOf (joinR (pthOf l)) = pthOf l := by
  obtain ⟨h0, h1, h2, h3⟩ := split_good h
  have hlen := back_len l
  have ho : ∀ y ∈ partsL l, okP y := fun y hy => (pl_ok hy).1
  obtain ⟨ps, hps⟩ : ∃ ps, ps = partsL l := ⟨_, rfl⟩
  obtain ⟨post, hpost⟩ : ∃ post : Bs, post = if dirEnd (pthOf l) = true then [47] else [] := ⟨_, rfl⟩
  have hpp : post = [] ∨ post = [47] := by rw [hpost]; split; · exact .inr rfl
                                           · exact .inl rfl
  have hj : joinR (pthOf l) = (if headB l = true then [47] else []) ++ joinP ps ++ post := by rw [hpost, hps]; rfl
  rw [← hps] at ho h3 hn
  have hpl := pl_join ps post hpp ho
  have hP : partsL (joinR (pthOf l)) = ps := by
    rw [hj]
    split
    · rw [List.append_assoc, List.singleton_append, pl_47]; exact hpl
    · simpa using hpl
  have h47 : ∀ c ∈ joinR (pthOf l), c = 47 ∨ c ∈ l := fun c hc => by
    rw [hj] at hc
    rcases List.mem_append.1 hc with hc | hc
    · rcases List.mem_append.1 hc with hc | hc
      · split at hc
        · exact .inl (by simpa using hc)
        · cases hc
      · rcases mem_join hc with e | ⟨x, hx, e⟩
        · exact .inl e
        · rw [hps] at hx; exact .inr ((pl_ok hx).2 c e)
    · rcases hpp with e | e
      · rw [e] at hc; cases hc
      · rw [e] at hc; exact .inl (by simpa using hc)
  have hne : joinR (pthOf l) ≠ [] := fun e => by
    rw [hj] at e
    simp only [List.append_eq_nil_iff] at e
    obtain ⟨⟨e1, e2⟩, -⟩ := e
    apply hn
    constructor
    · cases hh : headB l with
      | false => rfl
      | true => rw [hh] at e1; simp at e1
    · cases ps with
      | nil => rfl
      | cons x m =>
        simp only [joinP, List.append_eq_nil_iff] at e2
        exact absurd e2.1 (ho x (by simp)).1
  have hE : splitE (joinR (pthOf l)) = 0 := split_of hne (by omega) (fun hc => by rcases h47 _ hc with e | e; · exact absurd e (by decide)
                                                                                  · exact h2 e) (by rw [hP]; exact h3)
  refine ⟨hE, ?_⟩
  have hH : headB (joinR (pthOf l)) = headB l := by
    rw [hj]
    cases hh : headB l with
    | true => simp [headB]
    | false =>
      cases ps with
      | nil => exact absurd ⟨hh, rfl⟩ hn
      | cons x m =>
        have hx := ho x (by simp)
        cases x with
        | nil => exact absurd rfl hx.1
        | cons c x =>
          have hc : ¬ c = 47 := fun e => hx.2 (by simp [e])
          simp [headB, joinP, hc]
  have hD : dirB (joinR (pthOf l)) = dirB l := by
    have e1 : dirB (joinR (pthOf l)) = (lastB (joinR (pthOf l)) || decide (ps = []) || dotsB (ps.getLastD [])) := by unfold dirB; rw [hP]
    have e2 : dirB l = (lastB l || decide (ps = []) || dotsB (ps.getLastD [])) := by unfold dirB; rw [← hps]
    rw [e1]
    by_cases hd : dirEnd (pthOf l) = true
    · obtain ⟨h5, h6⟩ := dirEnd_last hd
      rw [e2, h5]
      rw [if_pos hd] at hpost
      rw [hj, hpost, lastB_app _ _ (by simp)]
      rfl
    · rw [if_neg hd] at hpost
      subst hpost
      by_cases hz : ps = []
      · rw [e2]; simp [hz]
      · cases hdd : dotsB (ps.getLastD []) with
        | true => rw [e2, hdd]; simp
        | false =>
          have hdl : dirB l = false := by
            cases hx : dirB l with
            | false => rfl
            | true =>
              exfalso; apply hd
              unfold dirEnd pthOf
              dsimp only
              rw [← hps, hx, hdd]
              have : 0 < ps.length := by cases ps with | nil => exact absurd rfl hz | cons => simp
              simp [this]
          rw [hdl]
          obtain ⟨q, hq⟩ := join_last ps hz
          have hlk : okP (ps.getLastD []) := by
            have : ps.getLastD [] ∈ ps := by
              rw [List.getLastD_eq_getLast?, List.getLast?_eq_some_getLast hz]
              exact List.getLast_mem hz
            exact ho _ this
          rw [hj, List.append_nil, hq, ← List.append_assoc, lastB_app _ _ hlk.1, lastB_no hlk]
          simp [hz]
  unfold pthOf at hH hD hP ⊢
  rw [hH, hD, hP, hps]
end Go.Proofs.Ythcolbdlalpcjaa
