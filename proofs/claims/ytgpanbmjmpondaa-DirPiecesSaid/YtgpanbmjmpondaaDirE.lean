/- Directories: maps by names; slots that are empty; how many are not. -/
import Derived.Test.YtgpanbmjmpondaaDirD
namespace Go.Proofs.Ytgpanbmjmpondaa
set_option maxRecDepth 4000
open Go Go.Par PH
def ekB (l : Bs) : Value := .string (mkB l)
def evI (n : Int) : Value := .int .i64 n
def keyB {P : Program} {t : TypeId} (h : P.underlying t = some .string) : KeyD P t ekB where
  d := .string
  under := h
  same a b := by show some (mkB a == mkB b) = _; rw [mkB_beq]
  chk e k w := (keyStr h).chk e (mkB k) w
  bits k := (keyStr (P := P) (t := t) h).bits (mkB k)
theorem lk_up {κ β : Type} [DecidableEq κ] : ∀ (L : List (κ × β)) (k : κ) (v : β) (k' : κ), lkM (upM L k v) k' = if k' = k then some v else lkM L k'
  | [], k, v, k' => by simp [upM, lkM]
  | x :: L, k, v, k' => by
    by_cases h : k = x.1
    · simp only [upM, if_pos h, lkM]
      by_cases h2 : k' = k
      · simp [h2]
      · have h3 : ¬ k' = x.1 := fun e => h2 (e.trans h.symm)
        simp [h2, h3]
    · simp only [upM, if_neg h, lkM, lk_up L k v k']
      by_cases h2 : k' = x.1
      · have h3 : ¬ k' = k := fun e => h (e.symm.trans h2)
        have h4 : ¬ x.1 = k := fun e => h e.symm
        simp [h2, h4]
      · simp [h2]
instance : DecidableEq Slo := fun a b => decidable_of_iff (a.ino = b.ino ∧ a.kind = b.kind ∧ a.nm = b.nm) (by cases a; cases b; simp)
instance : DecidableEq Spo := fun a b => decidable_of_iff (a.b = b.b ∧ a.c = b.c ∧ a.s = b.s) (by cases a; cases b; simp)
theorem eqSlo (a b : Slo) : eqT Try.prog heldTs 8 34 (encSlo a) (encSlo b) = some (decide (a = b)) := by
  have h : eqT Try.prog heldTs 8 34 (encSlo a) (encSlo b) = some ((a.ino == b.ino) && ((a.kind == b.kind) && ((mkB a.nm == mkB b.nm) && true))) := rfl
  rw [h, mkB_beq]
  cases a; cases b; simp [Bool.beq_eq_decide_eq]
theorem eqSlo_t {a b : Slo} (h : a = b) : eqT Try.prog heldTs 8 34 (encSlo a) (encSlo b) = some true := by rw [eqSlo, decide_eq_true h]
theorem eqSlo_f {a b : Slo} (h : ¬ a = b) : eqT Try.prog heldTs 8 34 (encSlo a) (encSlo b) = some false := by rw [eqSlo, decide_eq_false h]
def neL (l : List (Spo × Slo)) : List (Spo × Slo) := l.filter fun e => !decide (e.2 = slo0)
def allL (d : Dr) : List (Spo × Slo) := neL (slotsL d)
theorem neL_succ {l : List (Spo × Slo)} {j : Nat} (hj : j < l.length) : neL (l.take (j + 1)) = neL (l.take j) ++ if l[j].2 = slo0 then [] else [l[j]] := by
  unfold neL
  rw [List.take_add_one, List.getElem?_eq_getElem hj, Option.toList_some, List.filter_append]
  by_cases h : l[j].2 = slo0 <;> simp [h]
theorem argS_get {d : Dr} {j : Nat} (hj : j < (slotsL d).length) : argS d j = [spoV (slotsL d)[j].1, sloV (slotsL d)[j].2] := by unfold argS; rw [List.getElem?_eq_getElem hj]
theorem argS_len (d : Dr) (i : Nat) : (argS d i).length = 2 := by unfold argS; split <;> rfl
theorem slots_len (d : Dr) : (slotsL d).length ≤ 40 * maxR d := by
  have h1 : ∀ k c, (cellK d k c).length ≤ 10 := fun k c => by unfold cellK; split <;> simp [itemsS]
  have h2 : ∀ c, (lineF d c 0).length ≤ 40 := fun c => by
    unfold lineF
    have a0 := h1 0 c; have a1 := h1 1 c; have a2 := h1 2 c; have a3 := h1 3 c
    rw [show (List.range 4).drop 0 = [0, 1, 2, 3] from rfl]
    simp only [List.flatMap_cons, List.flatMap_nil, List.length_append, List.length_nil]
    omega
  have h3 : ∀ l : List Nat, (l.flatMap fun c => lineF d c 0).length ≤ 40 * l.length := fun l => by
    induction l with
    | nil => simp
    | cons c l ih => have := h2 c; simp only [List.flatMap_cons, List.length_append, List.length_cons]; omega
  have := h3 ((List.range (maxR d)).drop 0)
  simpa [slotsL, restF] using this
attribute [local irreducible] W WL Does Exec Body Then inBlk RG WR row obj pblk
set_option maxHeartbeats 1000000 in
theorem count_fn (h : PH) (v : Value) (d : Dr) (hv : DrV h v d) (hb : maxR d ≤ 1000000) : Does Try.prog 14 [v] [] h (Ret fun r _ _ => r = .int .i64 ((allL d).length : Int)) := by
  obtain ⟨x0, x1, x2, x3, rfl, h0, h1, h2, h3⟩ := hv
  obtain ⟨_, _, rfl⟩ := h0.shape
  obtain ⟨_, _, rfl⟩ := h1.shape
  obtain ⟨_, _, rfl⟩ := h2.shape
  obtain ⟨_, _, rfl⟩ := h3.shape
  have hs := slots_fn h _ d ⟨_, _, _, _, rfl, h0, h1, h2, h3⟩ hb
  have hsl := slots_len d
  unfold drV at hs ⊢
  refine Does_of_WM Try.func14 rfl (n := 16) rfl rfl (by simp only [argE] <;> rfl) ?_
  (repeat (first | refine W_seq ?_))
  refine W_region rfl ?_
  (refine WL_box rfl rfl rfl rfl rfl rfl ?_; intro b_)
  refine WL_is (X_assign rfl rfl) rfl rfl rfl ?_
  (repeat (first | refine WL_nil ?_ | refine Then_normal ?_ | refine W_seq ?_))
  generalize b_ = b1
  skip
  refine W_region rfl ?_
  (refine WL_alloc rfl rfl rfl rfl rfl rfl ?_; intro b_)
  refine WL_store rfl rfl rfl (by exact idx0) rfl rfl rfl rfl rfl rfl rfl rfl rfl ?_
  (repeat (first | refine WL_nil ?_ | refine Then_normal ?_ | refine W_seq ?_))
  generalize b_ = nb
  skip
  refine W_region rfl ?_
  refine WL_is (X_loadA rfl rfl (by exact idx1) rfl rfl rfl) rfl rfl rfl ?_
  refine WL_call rfl rfl rfl Try.func30 rfl rfl rfl rfl hs ?_
  rintro _ _ H1 L1 ⟨rfl, lb, rfl, hit⟩
  simp only [List.nil_append]
  (repeat (first | refine WL_nil ?_ | refine Then_normal ?_ | refine W_block ?_))
  refine W_rangeF (X := Nat) (N := (slotsL d).length) (args := argS d) (RC := []) (R2 := [blk b1 _ 25]) (fun n => [blk nb [.int .i64 (n : Int)] 3]) (fun i n => n = (neL ((slotsL d).take i)).length) (fun _ _ _ => False) 0 rfl Try.func41 rfl (by decide) (fun i => argS_len d i) rfl (fun _ => rfl) (.refl _) rfl (fun h' hl => hit h' hl) ?_ ?_ ?_
  · rintro lp j n H4 hj L4 rfl
    have hlen : (neL ((slotsL d).take j)).length ≤ j := by
      have := List.length_filter_le (fun e : Spo × Slo => !decide (e.2 = slo0)) ((slotsL d).take j)
      rw [List.length_take] at this; unfold neL; omega
    have hsu := neL_succ hj
    rw [argS_get hj]
    generalize (slotsL d)[j].1 = q at hsu ⊢
    obtain ⟨x, hx⟩ : ∃ x, (slotsL d)[j].2 = x := ⟨_, rfl⟩
    rw [hx] at hsu ⊢
    unfold spoV sloV
    simp only [putL]
    skip
    refine W_region rfl ?_
    (refine WL_alloc rfl rfl rfl rfl rfl rfl ?_; intro b_)
    refine WL_store rfl rfl rfl (by exact idx0) rfl rfl rfl rfl rfl rfl rfl rfl rfl ?_
    (repeat (first | refine WL_nil ?_ | refine Then_normal ?_ | refine W_seq ?_ | refine W_block ?_))
    skip
    refine W_region rfl ?_
    refine WL_is (X_loadA rfl rfl (by exact idx0) rfl rfl rfl) rfl rfl rfl ?_
    refine WL_is (X_build rfl rfl rfl) rfl rfl rfl ?_
    by_cases he : x = slo0
    · rw [if_pos he, List.append_nil] at hsu
      refine WL_is (X_neA 8 heldOk guardOk rfl rfl rfl rfl rfl rfl (eqSlo_t he)) rfl rfl rfl ?_
      (repeat (first | refine WL_nil ?_ | refine Then_normal ?_ | refine W_skip ?_ | refine inBlk_normal ?_ | refine W_false rfl ?_))
      exact ⟨_, .skip _ (SubR.refl _), by rw [hsu]⟩
    · rw [if_neg he] at hsu
      refine WL_is (X_neA 8 heldOk guardOk rfl rfl rfl rfl rfl rfl (eqSlo_f he)) rfl rfl rfl ?_
      (repeat (first | refine WL_nil ?_ | refine Then_normal ?_ | refine W_true rfl ?_))
      skip
      refine W_region rfl ?_
      refine WL_is (X_load1 rfl rfl (by exact idx1) rfl rfl) rfl rfl rfl ?_
      refine WL_is (X_addW rfl rfl rfl (by exact wrap_i64_in (by omega) (by omega))) rfl rfl rfl ?_
      refine WL_store rfl rfl rfl (by exact idx1) rfl rfl rfl rfl rfl rfl rfl rfl rfl ?_
      (repeat (first | refine WL_nil ?_ | refine inBlk_normal ?_))
      exact ⟨(neL ((slotsL d).take j)).length + 1, .skip _ (SubR.refl _), by rw [hsu]; simp⟩
  · rintro b3 n H4 L4 rfl
    rw [List.take_length]
    simp only [List.cons_append, List.nil_append]
    (repeat (first | refine Then_normal ?_ | refine W_seq ?_ | refine inBlk_normal ?_))
    skip
    refine W_region rfl ?_
    refine WL_is (X_load1 rfl rfl (by exact idx0) rfl rfl) rfl rfl rfl ?_
    refine WL_is (X_assign rfl rfl) rfl rfl rfl ?_
    (repeat (first | refine WL_nil ?_ | refine Then_normal ?_ | refine W_ret ?_))
    refine BodyM_1 (SubR.of_perm (perm_front 1 rfl)) ?_
    exact Body_end rfl rfl rfl (SubR.none _) rfl
  · rintro _ _ _ _ _ _ _ hf; exact hf.elim
end Go.Proofs.Ytgpanbmjmpondaa
