/- Names and paths: a path's parts, one behind the other. -/
import Derived.Test.YthcolbdlalpcjaaNameF
namespace Go.Proofs.Ythcolbdlalpcjaa
set_option maxRecDepth 4000
open Go Go.Par PH
theorem partsG_cut : ∀ (l cur : Bs), partsG cur l = (if cur ++ cutF l = [] then [] else [cur ++ cutF l]) ++ partsG [] (cutS l)
  | [], cur => by simp [partsG, cutF, cutS]
  | c :: l, cur => by
    by_cases hc : c = 47
    · subst hc
      have e1 : cutF (47 :: l) = [] := by simp [cutF]
      have e2 : cutS (47 :: l) = l := by simp [cutS]
      rw [e1, e2, List.append_nil]
      simp only [partsG, if_true]
      split <;> simp
    · have e1 : cutF (c :: l) = c :: cutF l := by simp [cutF, hc]
      have e2 : cutS (c :: l) = cutS l := by simp [cutS, hc]
      rw [e1, e2]
      simp only [partsG, if_neg hc]
      rw [partsG_cut l (cur ++ [c]), List.append_assoc]
      rfl
theorem cutS_lt {l : Bs} (h : l ≠ []) : (cutS l).length < l.length := by
  cases l with
  | nil => exact absurd rfl h
  | cons c l =>
    unfold cutS
    have : ((c :: l).dropWhile fun x => !decide (x = 47)).length ≤ (c :: l).length := (List.dropWhile_sublist _).length_le
    simp only [List.length_drop, List.length_cons] at *
    omega
def partA (l : Bs) (i : Nat) : List Value := [.string (mkB ((partsL l)[i]?.getD []))]
structure IX where
  j : Nat
  r : Bs
  h : PH
attribute [local irreducible] W WL Does Exec Body Then inBlk RG WR row obj pblk
set_option maxHeartbeats 1000000 in
theorem parts_iter (h : PH) (b : Nat) (l : Bs) (hl : l.length ≤ 1000000) : Iter Try.prog 34 [.pointer (some ⟨b, 0, none⟩)] [blk b [.string (mkB l)] 9] (partsL l).length (partA l) h := by
  intro lp T Tx hY
  refine Does_of_W Try.func34 rfl (n := 23) rfl rfl (by simp only [argE, Nat.reduceAdd] <;> rfl) ?_
  (repeat (first | refine W_block ?_))
  refine W_loop (X := IX) (L := fun x => ⟨[(0, .func (.yield lp) #[] #[]), (1, .pointer (some ⟨b, 0, none⟩))], [], [T x.j, blk b [.string (mkB x.r)] 9], x.h⟩) (p := fun x => x.r.length ≤ l.length ∧ x.j ≤ (partsL l).length ∧ partsG [] x.r = (partsL l).drop x.j ∧ le h x.h) (μ := fun x => x.r.length) ⟨0, l, h⟩ ⟨(by repeat (first | exact SubE_nil | refine SubE_cons rfl ?_)), rfl, SubR.refl _, rfl⟩ ⟨Nat.le_refl _, Nat.zero_le _, rfl, le.refl _⟩ ?_
  rintro ⟨j, r, h1⟩ ⟨hrl, hj, hp, hle⟩
  dsimp only at hrl hj hp hle ⊢
  have hre : (mkB r == (⟨#[]⟩ : ByteArray)) = decide (r = []) := mkB_beq r []
  by_cases hr : r = []
  · rw [decide_eq_true hr] at hre
    have hjN : j = (partsL l).length := by
      have h0 : partsG [] r = [] := by rw [hr]; rfl
      rw [h0] at hp
      have := congrArg List.length hp
      simp at this; omega
    subst hjN
    (repeat (first | refine W_seq ?_))
    refine W_region rfl ?_
    refine WL_is (X_load1 rfl rfl (by exact idx1) rfl rfl) rfl rfl rfl ?_
    refine WL_is (X_neS_c rfl rfl rfl (by assumption)) rfl rfl rfl ?_
    (repeat (first | refine WL_nil ?_ | refine Then_normal ?_ | refine W_exit ?_ | refine Then_exit ?_ | refine inBlk_here ?_ | refine W_false rfl ?_))
    exact Body_end0 rfl rfl rfl (SubR.refl _) (.inl ⟨_, rfl⟩)
  · rw [decide_eq_false hr] at hre
    have hlt := cutS_lt hr
    have hc := strCut1_fn h1 r (by omega)
    have hcut := partsG_cut r []
    simp only [List.nil_append] at hcut
    have hfe : (mkB (cutF r) == (⟨#[]⟩ : ByteArray)) = decide (cutF r = []) := mkB_beq (cutF r) []
    by_cases hf : cutF r = []
    · rw [decide_eq_true hf] at hfe
      rw [if_pos hf, List.nil_append] at hcut
      (repeat (first | refine W_seq ?_))
      refine W_region rfl ?_
      refine WL_is (X_load1 rfl rfl (by exact idx1) rfl rfl) rfl rfl rfl ?_
      refine WL_is (X_neS_c rfl rfl rfl (by assumption)) rfl rfl rfl ?_
      (repeat (first | refine WL_nil ?_ | refine Then_normal ?_ | refine W_seq ?_ | refine W_skip ?_ | refine W_block ?_ | refine W_true rfl ?_))
      skip
      refine W_region rfl ?_
      refine WL_is (X_load1 rfl rfl (by exact idx1) rfl rfl) rfl rfl rfl ?_
      refine WL_is (X_callv rfl rfl rfl Try.func35 rfl (by assumption)) rfl rfl rfl ?_
      refine WL_is (X_move rfl rfl) rfl rfl rfl ?_
      refine WL_is (X_extract rfl rfl rfl) rfl rfl rfl ?_
      refine WL_is (X_extract rfl rfl rfl) rfl rfl rfl ?_
      refine WL_is (X_extract rfl rfl rfl) rfl rfl rfl ?_
      refine WL_is (X_assign rfl rfl) rfl rfl rfl ?_
      refine WL_is (X_assign rfl rfl) rfl rfl rfl ?_
      refine WL_is (X_assign rfl rfl) rfl rfl rfl ?_
      (repeat (first | refine WL_nil ?_ | refine Then_normal ?_ | refine W_seq ?_))
      skip
      refine W_region rfl ?_
      refine WL_is (X_move rfl rfl) rfl rfl rfl ?_
      refine WL_store rfl rfl rfl (by exact idx1) rfl rfl rfl rfl rfl rfl rfl rfl rfl ?_
      (repeat (first | refine WL_nil ?_ | refine Then_normal ?_ | refine W_seq ?_))
      skip
      refine W_region rfl ?_
      refine WL_is (X_move rfl rfl) rfl rfl rfl ?_
      refine WL_is (X_neS_c rfl rfl rfl (by assumption)) rfl rfl rfl ?_
      refine WL_is (X_move rfl rfl) rfl rfl rfl ?_
      refine WL_off rfl rfl rfl ?_
      refine WL_off rfl rfl rfl ?_
      refine WL_off rfl rfl rfl ?_
      refine WL_off rfl rfl rfl ?_
      refine WL_is (X_pick_f rfl rfl rfl) rfl rfl rfl ?_
      (repeat (first | refine WL_nil ?_ | refine Then_normal ?_ | refine W_skip ?_ | refine inBlk_normal ?_ | refine W_false rfl ?_))
      exact ⟨⟨j, cutS r, h1⟩, ⟨(by repeat (first | exact SubE_nil | refine SubE_cons rfl ?_)), rfl, SubR.refl _, rfl⟩, ⟨by dsimp only; omega, hj, by rw [← hcut]; exact hp, hle⟩, hlt⟩
    · rw [decide_eq_false hf] at hfe
      rw [if_neg hf] at hcut
      have hjl : j < (partsL l).length := by
        rcases Nat.lt_or_ge j (partsL l).length with hh | hh
        · exact hh
        · rw [List.drop_eq_nil_of_le hh, hcut] at hp; cases hp
      rw [hcut, List.drop_eq_getElem_cons hjl] at hp
      simp only [List.cons_append, List.nil_append, List.cons.injEq] at hp
      obtain ⟨hp1, hp2⟩ := hp
      have hya := hY j h1 hjl hle
      have ha : partA l j = [.string (mkB (cutF r))] := by unfold partA; rw [List.getElem?_eq_getElem hjl, hp1]; rfl
      rw [ha] at hya
      (repeat (first | refine W_seq ?_))
      refine W_region rfl ?_
      refine WL_is (X_load1 rfl rfl (by exact idx1) rfl rfl) rfl rfl rfl ?_
      refine WL_is (X_neS_c rfl rfl rfl (by assumption)) rfl rfl rfl ?_
      (repeat (first | refine WL_nil ?_ | refine Then_normal ?_ | refine W_seq ?_ | refine W_skip ?_ | refine W_block ?_ | refine W_true rfl ?_))
      skip
      refine W_region rfl ?_
      refine WL_is (X_load1 rfl rfl (by exact idx1) rfl rfl) rfl rfl rfl ?_
      refine WL_is (X_callv rfl rfl rfl Try.func35 rfl (by assumption)) rfl rfl rfl ?_
      refine WL_is (X_move rfl rfl) rfl rfl rfl ?_
      refine WL_is (X_extract rfl rfl rfl) rfl rfl rfl ?_
      refine WL_is (X_extract rfl rfl rfl) rfl rfl rfl ?_
      refine WL_is (X_extract rfl rfl rfl) rfl rfl rfl ?_
      refine WL_is (X_assign rfl rfl) rfl rfl rfl ?_
      refine WL_is (X_assign rfl rfl) rfl rfl rfl ?_
      refine WL_is (X_assign rfl rfl) rfl rfl rfl ?_
      (repeat (first | refine WL_nil ?_ | refine Then_normal ?_ | refine W_seq ?_))
      skip
      refine W_region rfl ?_
      refine WL_is (X_move rfl rfl) rfl rfl rfl ?_
      refine WL_store rfl rfl rfl (by exact idx1) rfl rfl rfl rfl rfl rfl rfl rfl rfl ?_
      (repeat (first | refine WL_nil ?_ | refine Then_normal ?_ | refine W_seq ?_))
      skip
      refine W_region rfl ?_
      refine WL_is (X_move rfl rfl) rfl rfl rfl ?_
      refine WL_is (X_neS_c rfl rfl rfl (by assumption)) rfl rfl rfl ?_
      refine WL_is (X_move rfl rfl) rfl rfl rfl ?_
      refine WL_is (X_move rfl rfl) rfl rfl rfl ?_
      refine WL_is (X_move rfl rfl) rfl rfl rfl ?_
      refine WL_yield [T j] [_] rfl rfl rfl rfl rfl rfl (.refl _) hya ?_
      rintro v _ h2 hle2 (⟨rfl, rfl⟩ | ⟨rfl, rfl⟩)
      · simp only [List.cons_append, List.nil_append]
        refine WL_is (X_not rfl rfl) rfl rfl rfl ?_
        refine WL_is (X_pick_t rfl rfl rfl) rfl rfl rfl ?_
        (repeat (first | refine WL_nil ?_ | refine Then_normal ?_ | refine W_skip ?_ | refine inBlk_normal ?_ | refine W_false rfl ?_))
        exact ⟨⟨j + 1, cutS r, h2⟩, ⟨(by repeat (first | exact SubE_nil | refine SubE_cons rfl ?_)), rfl, SubR.refl _, rfl⟩, ⟨by dsimp only; omega, hjl, hp2, hle.trans hle2⟩, hlt⟩
      · simp only [List.cons_append, List.nil_append]
        refine WL_is (X_not rfl rfl) rfl rfl rfl ?_
        refine WL_is (X_pick_t rfl rfl rfl) rfl rfl rfl ?_
        (repeat (first | refine WL_nil ?_ | refine Then_normal ?_ | refine W_ret ?_ | refine Then_ret ?_ | refine inBlk_ret ?_ | refine W_true rfl ?_))
        exact Body_end rfl rfl rfl (SubR.refl _) (.inr ⟨j, hjl, _, rfl⟩)
theorem parts_fn (h : PH) (l : Bs) : Does Try.prog 24 [.string (mkB l)] [] h (Ret fun r R' h' => ∃ b, r = .func (.func 34) #[] #[.pointer (some ⟨b, 0, none⟩)] ∧ R' = [blk b [.string (mkB l)] 9]) := by
  refine Does_of_W Try.func24 rfl (n := 4) rfl rfl (by simp only [argE] <;> rfl) ?_
  (repeat (first | refine W_seq ?_))
  skip
  refine W_region rfl ?_
  (refine WL_box rfl rfl rfl rfl rfl rfl ?_; intro b_)
  refine WL_is (X_assign rfl rfl) rfl rfl rfl ?_
  (repeat (first | refine WL_nil ?_ | refine Then_normal ?_ | refine W_seq ?_))
  skip
  refine W_region rfl ?_
  refine WL_is (X_makeFunc rfl rfl rfl) rfl rfl rfl ?_
  refine WL_is (X_assign rfl rfl) rfl rfl rfl ?_
  (repeat (first | refine WL_nil ?_ | refine Then_normal ?_ | refine W_ret ?_))
  exact Body_end rfl rfl rfl (SubR.refl _) ⟨_, rfl, rfl⟩
end Go.Proofs.Ythcolbdlalpcjaa
