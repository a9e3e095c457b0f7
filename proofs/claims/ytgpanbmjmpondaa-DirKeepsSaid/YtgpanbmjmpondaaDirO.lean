/- Directories: what is found, what is listed, as the document has it. -/
import Derived.Test.YtgpanbmjmpondaaDirN
namespace Go.Proofs.Ytgpanbmjmpondaa
set_option maxRecDepth 4000
open Go Go.Par PH
def findF (d : Dr) (s : Bs) : Spo × Slo × Bool := match fndL s (allL d) with | some e => (e.1, e.2, true) | none => (spo0, slo0, false)
def findFV (r : Spo × Slo × Bool) : Value := .tuple #[spoV r.1, sloV r.2.1, .bool r.2.2]
theorem fnd_at {s : Bs} {l : List (Spo × Slo)} {i : Nat} (hi : i < l.length) (hno : fndL s (l.take i) = none) (h : l[i].2.nm = s) : fndL s l = some l[i] := by
  have hsp : l = l.take i ++ (l[i] :: l.drop (i + 1)) := by rw [← List.drop_eq_getElem_cons hi, List.take_append_drop]
  have : fndL s (l.take i ++ (l[i] :: l.drop (i + 1))) = some l[i] := by
    unfold fndL at hno ⊢
    rw [List.find?_append, hno, List.find?_cons_of_pos (by simp [h])]; rfl
  rwa [← hsp] at this
theorem fnd_step {s : Bs} {l : List (Spo × Slo)} {i : Nat} (hi : i < l.length) (hno : fndL s (l.take i) = none) (h : ¬ l[i].2.nm = s) : fndL s (l.take (i + 1)) = none := by
  rw [take_snoc hi]; unfold fndL at hno ⊢
  rw [List.find?_append, hno]; simp [h]
attribute [local irreducible] W WL Does Exec Body Then inBlk RG WR row obj pblk
set_option maxHeartbeats 4000000 in
theorem find_ref (h : PH) (v : Value) (d : Dr) (s : Bs) (hv : DrV h v d) (hb : maxR d ≤ 1000000) : Does Try.prog 18 [v, .string (mkB s)] [] h (Ret fun r _ _ => r = findFV (findF d s)) := by
  have hal := all_ref h v d hv hb
  have hsl : (allL d).length ≤ 40 * maxR d := Nat.le_trans (List.length_filter_le ..) (slots_len d)
  obtain ⟨x0, x1, x2, x3, rfl, h0, h1, h2, h3⟩ := hv
  obtain ⟨_, _, rfl⟩ := h0.shape
  obtain ⟨_, _, rfl⟩ := h1.shape
  obtain ⟨_, _, rfl⟩ := h2.shape
  obtain ⟨_, _, rfl⟩ := h3.shape
  unfold drV at hal ⊢
  unfold findF
  refine Does_of_W Try.func18 rfl (n := 38) rfl rfl (by simp only [argE, Nat.reduceAdd] <;> rfl) ?_
  (repeat (first | refine W_seq ?_))
  refine W_region rfl ?_
  (refine WL_box rfl rfl rfl rfl rfl rfl ?_; intro b_)
  generalize b_ = b2
  (refine WL_alloc rfl rfl rfl rfl rfl rfl ?_; intro b_)
  generalize b_ = b4
  (refine WL_alloc rfl rfl rfl rfl rfl rfl ?_; intro b_)
  generalize b_ = b5
  refine WL_is (X_assign rfl rfl) rfl rfl rfl ?_
  (repeat (first | refine WL_nil ?_ | refine Then_normal ?_ | refine W_seq ?_))
  skip
  refine W_region rfl ?_
  refine WL_is (X_loadA rfl rfl (by exact idx2) rfl rfl rfl) rfl rfl rfl ?_
  refine WL_call rfl rfl rfl Try.func15 rfl rfl rfl rfl hal ?_
  rintro av_ _ H1 L1 ⟨hsa, rfl⟩
  obtain ⟨aa, ac, rfl⟩ := hsa.shape
  simp only [List.nil_append]
  refine WL_is (X_assign rfl rfl) rfl rfl rfl ?_
  (repeat (first | refine WL_nil ?_ | refine Then_normal ?_ | refine W_seq ?_))
  skip
  refine W_region rfl ?_
  refine WL_is (X_assign rfl rfl) rfl rfl rfl ?_
  (repeat (first | refine WL_nil ?_ | refine Then_normal ?_ | refine W_block ?_))
  have hsp : ∀ e ∈ allL d, (0 ≤ e.1.b ∧ e.1.b ≤ 3) ∧ (0 ≤ e.1.c ∧ e.1.c ≤ 1000000) ∧ (0 ≤ e.1.s ∧ e.1.s ≤ 9) := fun e he => all_spot hb he
  generalize allL d = l at hsa hsp hsl ⊢
  refine W_loop (X := Nat) (L := fun i => ⟨[(8, .int .i64 (i : Int)), (7, .slice aa l.length ac), (1, .string (mkB s)), (4, .pointer (some ⟨b4, 0, none⟩)), (5, .pointer (some ⟨b5, 0, none⟩))], [], [blk b5 (encSlo slo0) 34, blk b4 (spoC spo0) 32], H1⟩) (p := fun i => i ≤ l.length ∧ fndL s (l.take i) = none) (μ := fun i => l.length - i) 0 ⟨(by repeat (first | exact SubE_nil | refine SubE_cons rfl ?_)), rfl, SubR_pick 0 rfl (SubR_pick 0 rfl (SubR.none _)), rfl⟩ ⟨Nat.zero_le _, rfl⟩ ?_
  rintro i ⟨hi, hno⟩
  by_cases hil : i < l.length
  · have hcs : (mkB l[i].2.nm == mkB s) = decide (l[i].2.nm = s) := mkB_beq _ _
    have cs := spot_ref H1 l[i].1 (hsp _ (List.getElem_mem hil))
    unfold spoV at cs
    by_cases hse : l[i].2.nm = s
    · rw [decide_eq_true hse] at hcs
      rw [fnd_at hil hno hse]
      (repeat (first | refine W_seq ?_))
      refine W_region rfl ?_
      refine WL_is (X_move rfl rfl) rfl rfl rfl ?_
      refine WL_is (X_move rfl rfl) rfl rfl rfl ?_
      refine WL_is (X_len_sl rfl rfl rfl (by assumption)) rfl rfl rfl ?_
      refine WL_is (X_lss_t rfl rfl rfl (by omega)) rfl rfl rfl ?_
      (repeat (first | refine WL_nil ?_ | refine Then_normal ?_ | refine W_seq ?_ | refine W_skip ?_ | refine W_block ?_ | refine W_true rfl ?_))
      skip
      refine W_region rfl ?_
      refine WL_is (X_move rfl rfl) rfl rfl rfl ?_
      refine WL_is (X_move rfl rfl) rfl rfl rfl ?_
      (refine WL_index_slN rfl rfl rfl rfl rfl (by assumption) (by omega) rfl rfl rfl ?_; intro p_ hp_)
      (refine WL_fieldAddr_at rfl rfl (by assumption) rfl rfl rfl rfl ?_; intro p_ hp_)
      (refine WL_fieldAddr_at rfl rfl (by assumption) rfl rfl rfl rfl ?_; intro p_ hp_)
      refine WL_is (X_load1_at rfl rfl (by assumption) rfl rfl) rfl rfl rfl ?_
      refine WL_is (X_move rfl rfl) rfl rfl rfl ?_
      refine WL_is (X_eqS_c rfl rfl rfl (by assumption)) rfl rfl rfl ?_
      (repeat (first | refine WL_nil ?_ | refine Then_normal ?_ | refine W_seq ?_ | refine W_true rfl ?_))
      skip
      refine W_draw 12 _ [] [blk b5 (encSlo slo0) 34] rfl rfl rfl (SubE.refl _) rfl ?_
      refine RG_val rfl rfl (fun _ => rfl) (fun _ => X_move rfl rfl) ?_
      refine RG_val rfl rfl (fun _ => rfl) (fun _ => X_move rfl rfl) ?_
      (refine RG_index_slN rfl rfl rfl (fun _ => rfl) (fun _ => rfl) (by assumption) (by omega) rfl rfl (fun _ => rfl) ?_; intro p_ hp_)
      (refine RG_fieldAddr_at rfl (fun _ => rfl) (by assumption) rfl rfl rfl (fun _ => rfl) ?_; intro p_ hp_)
      refine RG_val rfl rfl (fun _ => rfl) (fun _ => X_load1_at rfl rfl (by assumption) rfl rfl) ?_
      refine RG_val rfl rfl (fun _ => rfl) (fun _ => X_callv rfl rfl rfl Try.func36 rfl (by assumption)) ?_
      refine RG_val rfl rfl (fun _ => rfl) (fun _ => X_move rfl rfl) ?_
      refine RG_val rfl rfl (fun _ => rfl) (fun _ => X_move rfl rfl) ?_
      (refine RG_index_slN rfl rfl rfl (fun _ => rfl) (fun _ => rfl) (by assumption) (by omega) rfl rfl (fun _ => rfl) ?_; intro p_ hp_)
      (refine RG_fieldAddr_at rfl (fun _ => rfl) (by assumption) rfl rfl rfl (fun _ => rfl) ?_; intro p_ hp_)
      refine RG_val rfl rfl (fun _ => rfl) (fun _ => X_loadA_at rfl rfl (by assumption) rfl rfl rfl) ?_
      refine RG_storeC (t0 := 32) (b := b4) (off := 0) (sz := 3) (c := spoC spo0) rfl (fun _ => rfl) (fun _ => rfl) rfl rfl rfl rfl rfl rfl (fun _ => rfl) rfl ?_
      refine RG_nil ?_
      refine RG_endC ((perm_front 1 rfl)) (fun vs => by simp only [endE, List.cons_append, List.nil_append] <;> rfl) (fun vs => by simp only [endR, List.cons_append, List.nil_append, List.append_nil] <;> rfl) (fun vs h' hf => hf) ?_
      rintro vs h3 hl3 -
      refine WL_store rfl rfl rfl (by exact idx1) rfl rfl rfl rfl rfl rfl rfl rfl rfl ?_
      refine WL_is (X_assign rfl rfl) rfl rfl rfl ?_
      (repeat (first | refine WL_nil ?_ | refine Then_normal ?_ | refine W_ret ?_ | refine Then_ret ?_ | refine inBlk_ret ?_))
      refine Body_vals (.cons (.cellA rfl idx0 rfl rfl rfl) (.cons (.cellA rfl idx1 rfl rfl rfl) (.cons (.tmp rfl) .nil))) rfl ?_
      exact UpdE.of (Upd.sub (SubR.none _)) rfl
    · rw [decide_eq_false hse] at hcs
      (repeat (first | refine W_seq ?_))
      refine W_region rfl ?_
      refine WL_is (X_move rfl rfl) rfl rfl rfl ?_
      refine WL_is (X_move rfl rfl) rfl rfl rfl ?_
      refine WL_is (X_len_sl rfl rfl rfl (by assumption)) rfl rfl rfl ?_
      refine WL_is (X_lss_t rfl rfl rfl (by omega)) rfl rfl rfl ?_
      (repeat (first | refine WL_nil ?_ | refine Then_normal ?_ | refine W_seq ?_ | refine W_skip ?_ | refine W_block ?_ | refine W_true rfl ?_))
      skip
      refine W_region rfl ?_
      refine WL_is (X_move rfl rfl) rfl rfl rfl ?_
      refine WL_is (X_move rfl rfl) rfl rfl rfl ?_
      (refine WL_index_slN rfl rfl rfl rfl rfl (by assumption) (by omega) rfl rfl rfl ?_; intro p_ hp_)
      (refine WL_fieldAddr_at rfl rfl (by assumption) rfl rfl rfl rfl ?_; intro p_ hp_)
      (refine WL_fieldAddr_at rfl rfl (by assumption) rfl rfl rfl rfl ?_; intro p_ hp_)
      refine WL_is (X_load1_at rfl rfl (by assumption) rfl rfl) rfl rfl rfl ?_
      refine WL_is (X_move rfl rfl) rfl rfl rfl ?_
      refine WL_is (X_eqS_c rfl rfl rfl (by assumption)) rfl rfl rfl ?_
      (repeat (first | refine WL_nil ?_ | refine Then_normal ?_ | refine W_skip ?_ | refine inBlk_normal ?_ | refine W_false rfl ?_))
      skip
      refine W_region rfl ?_
      refine WL_is (X_move rfl rfl) rfl rfl rfl ?_
      refine WL_is (X_addW rfl rfl rfl (by exact wrap_i64_in (by omega) (by omega))) rfl rfl rfl ?_
      refine WL_is (X_assign rfl rfl) rfl rfl rfl ?_
      (repeat (first | refine WL_nil ?_ | refine Then_normal ?_))
      exact ⟨i + 1, ⟨(by repeat (first | exact SubE_nil | refine SubE_cons rfl ?_)), rfl, SubR.refl _, rfl⟩, ⟨hil, fnd_step hil hno hse⟩, by omega⟩
  · have hil' : i = l.length := by omega
    subst hil'
    rw [List.take_length] at hno
    rw [hno]
    (repeat (first | refine W_seq ?_))
    refine W_region rfl ?_
    refine WL_is (X_move rfl rfl) rfl rfl rfl ?_
    refine WL_is (X_move rfl rfl) rfl rfl rfl ?_
    refine WL_is (X_len_sl rfl rfl rfl (by assumption)) rfl rfl rfl ?_
    refine WL_is (X_lss_f rfl rfl rfl (by omega)) rfl rfl rfl ?_
    (repeat (first | refine WL_nil ?_ | refine Then_normal ?_ | refine W_seq ?_ | refine W_exit ?_ | refine Then_exit ?_ | refine inBlk_here ?_ | refine W_false rfl ?_))
    skip
    refine W_region rfl ?_
    refine WL_is (X_build rfl rfl rfl) rfl rfl rfl ?_
    refine WL_is (X_build rfl rfl rfl) rfl rfl rfl ?_
    refine WL_store rfl rfl rfl (by exact idx1) rfl rfl rfl rfl rfl rfl rfl rfl rfl ?_
    refine WL_store rfl rfl rfl (by exact idx0) rfl rfl rfl rfl rfl rfl rfl rfl rfl ?_
    refine WL_is (X_assign rfl rfl) rfl rfl rfl ?_
    (repeat (first | refine WL_nil ?_ | refine Then_normal ?_ | refine W_ret ?_))
    refine Body_vals (.cons (.cellA rfl idx1 rfl rfl rfl) (.cons (.cellA rfl idx0 rfl rfl rfl) (.cons (.tmp rfl) .nil))) rfl ?_
    exact UpdE.of (Upd.sub (SubR.none _)) rfl
theorem listR_may {d : Dr} {f m : Int} (hm : mayD d = true) : listR d f m = if m < 0 then ([], 2) else (listL (allL d) f m, 0) := by
  unfold listR
  by_cases h : m < 0
  · rw [if_neg (by omega), if_pos h]
  · rw [if_pos ⟨hm, by omega⟩, if_neg h]
structure LX3 where
  i : Nat
  v : Value
  L : List (Spo × Slo)
  g : PH
set_option maxHeartbeats 4000000 in
theorem list_ref (h : PH) (v : Value) (d : Dr) (f m : Int) (hv : DrV h v d) (hb : maxR d ≤ 1000000) (hm : mayD d = true) : Does Try.prog 20 [v, .int .i64 f, .int .i64 m] [] h (Ret fun r R' h' => ListA (listR d f m) r h' ∧ R' = []) := by
  have hal := all_ref h v d hv hb
  have hsl : (allL d).length ≤ 40 * maxR d := Nat.le_trans (List.length_filter_le ..) (slots_len d)
  rw [listR_may hm]
  obtain ⟨x0, x1, x2, x3, rfl, h0, h1, h2, h3⟩ := hv
  obtain ⟨_, _, rfl⟩ := h0.shape
  obtain ⟨_, _, rfl⟩ := h1.shape
  obtain ⟨_, _, rfl⟩ := h2.shape
  obtain ⟨_, _, rfl⟩ := h3.shape
  unfold drV at hal ⊢
  refine Does_of_W Try.func20 rfl (n := 42) rfl rfl (by simp only [argE, Nat.reduceAdd] <;> rfl) ?_
  (repeat (first | refine W_seq ?_))
  refine W_region rfl ?_
  (refine WL_box rfl rfl rfl rfl rfl rfl ?_; intro b_)
  refine WL_is (X_assign rfl rfl) rfl rfl rfl ?_
  refine WL_is (X_assign rfl rfl) rfl rfl rfl ?_
  (repeat (first | refine WL_nil ?_ | refine Then_normal ?_ | refine W_seq ?_))
  by_cases hm0 : m < 0
  · rw [if_pos hm0]
    skip
    refine W_region rfl ?_
    refine WL_is (X_move rfl rfl) rfl rfl rfl ?_
    refine WL_is (X_lss_t rfl rfl rfl (by omega)) rfl rfl rfl ?_
    (repeat (first | refine WL_nil ?_ | refine Then_normal ?_ | refine W_seq ?_ | refine W_true rfl ?_))
    skip
    refine W_region rfl ?_
    refine WL_is (X_assign rfl rfl) rfl rfl rfl ?_
    refine WL_is (X_assign rfl rfl) rfl rfl rfl ?_
    (repeat (first | refine WL_nil ?_ | refine Then_normal ?_ | refine W_ret ?_ | refine Then_ret ?_))
    refine Body_vals (.cons (.tmp rfl) (.cons (.tmp rfl) .nil)) rfl ?_
    exact UpdE.of (Upd.sub (SubR.none _)) ⟨⟨_, rfl, Sl.nil⟩, rfl⟩
  · rw [if_neg hm0]
    obtain ⟨mn, rfl⟩ := Int.eq_ofNat_of_zero_le (show 0 ≤ m by omega)
    skip
    refine W_region rfl ?_
    refine WL_is (X_move rfl rfl) rfl rfl rfl ?_
    refine WL_is (X_lss_f rfl rfl rfl (by omega)) rfl rfl rfl ?_
    (repeat (first | refine WL_nil ?_ | refine Then_normal ?_ | refine W_seq ?_ | refine W_skip ?_ | refine W_false rfl ?_))
    skip
    refine W_region rfl ?_
    refine WL_is (X_loadA rfl rfl (by exact idx0) rfl rfl rfl) rfl rfl rfl ?_
    refine WL_call rfl rfl rfl Try.func15 rfl rfl rfl rfl hal ?_
    rintro av_ _ H1 L1 ⟨hsa, rfl⟩
    obtain ⟨aa, ac, rfl⟩ := hsa.shape
    simp only [List.nil_append]
    refine WL_is (X_assign rfl rfl) rfl rfl rfl ?_
    (repeat (first | refine WL_nil ?_ | refine Then_normal ?_ | refine W_seq ?_))
    skip
    refine W_region rfl ?_
    refine WL_is (X_assign rfl rfl) rfl rfl rfl ?_
    (repeat (first | refine WL_nil ?_ | refine Then_normal ?_ | refine W_seq ?_))
    skip
    refine W_region rfl ?_
    refine WL_is (X_assign rfl rfl) rfl rfl rfl ?_
    (repeat (first | refine WL_nil ?_ | refine Then_normal ?_ | refine W_block ?_))
    unfold listL
    simp only [Int.toNat_natCast]
    generalize allL d = l at hsa hsl ⊢
    refine W_upd (Upd.nilrow (e := 59) (sz := 4)) ?_
    refine W_loop (X := LX3) (L := fun x => ⟨[(10, .int .i64 (x.i : Int)), (9, x.v), (8, .slice aa l.length ac), (1, .int .i64 f), (2, .int .i64 (mn : Int))], [], [rowL encE x.v 59 4 x.L], x.g⟩) (p := fun x => le H1 x.g ∧ x.i ≤ l.length ∧ x.L = behL f (l.take x.i) ∧ x.L.length ≤ mn) (μ := fun x => l.length - x.i) ⟨0, .slice none 0 0, [], H1⟩ ⟨(by repeat (first | exact SubE_nil | refine SubE_cons rfl ?_)), rfl, .cons _ (SubR.none _), rfl⟩ ⟨le.refl _, Nat.zero_le _, rfl, Nat.zero_le _⟩ ?_
    rintro ⟨i, xv, L, g⟩ ⟨hg, hi, hL, hlm⟩
    dsimp only at hg hi hL hlm ⊢
    replace hsa := hsa.mono hg
    have hpre : behL f l = L ++ behL f (l.drop i) := by rw [hL, ← behL_app, List.take_append_drop]
    refine W_updE (UpdE.shapeL 0 rfl) ?_
    rintro _ H5 - ⟨rfl, rfl, xa, xc, rfl⟩
    by_cases hil : i < l.length
    · by_cases hlm2 : L.length < mn
      · have hi1 : (L.length : Int) < (mn : Int) := by omega
        have hta := take_snoc hil
        have hlen : L.length ≤ i := by
          rw [hL]; refine Nat.le_trans (List.length_filter_le ..) ?_
          rw [List.length_take]; omega
        (repeat (first | refine W_seq ?_))
        refine W_region rfl ?_
        refine WL_is (X_move rfl rfl) rfl rfl rfl ?_
        refine WL_is (X_move rfl rfl) rfl rfl rfl ?_
        refine WL_is (X_len_sl rfl rfl rfl (by assumption)) rfl rfl rfl ?_
        refine WL_is (X_lss_t rfl rfl rfl (by omega)) rfl rfl rfl ?_
        refine WL_is (X_move rfl rfl) rfl rfl rfl ?_
        refine WL_is (X_move rfl rfl) rfl rfl rfl ?_
        refine WL_is (X_len rfl rfl rfl) rfl rfl rfl ?_
        refine WL_is (X_move rfl rfl) rfl rfl rfl ?_
        refine WL_is (X_lss_t rfl rfl rfl (by omega)) rfl rfl rfl ?_
        refine WL_is (X_pick_t rfl rfl rfl) rfl rfl rfl ?_
        (repeat (first | refine WL_nil ?_ | refine Then_normal ?_ | refine W_seq ?_ | refine W_skip ?_ | refine W_block ?_ | refine W_true rfl ?_))
        by_cases hgt : cookS l[i].1 > f
        · have hbe : behL f (l.take (i + 1)) = L ++ [l[i]] := by
            rw [hta, behL_app, ← hL]
            have : f < cookS l[i].1 := hgt
            simp [behL, this]
          skip
          refine W_region rfl ?_
          refine WL_is (X_move rfl rfl) rfl rfl rfl ?_
          refine WL_is (X_move rfl rfl) rfl rfl rfl ?_
          (refine WL_index_slN rfl rfl rfl rfl rfl (by assumption) (by omega) rfl rfl rfl ?_; intro p_ hp_)
          (refine WL_fieldAddr_at rfl rfl (by assumption) rfl rfl rfl rfl ?_; intro p_ hp_)
          refine WL_is (X_load1_at rfl rfl (by assumption) rfl rfl) rfl rfl rfl ?_
          refine WL_is (X_move rfl rfl) rfl rfl rfl ?_
          refine WL_is (X_gtr_t rfl rfl rfl (by omega)) rfl rfl rfl ?_
          (repeat (first | refine WL_nil ?_ | refine Then_normal ?_ | refine W_true rfl ?_))
          skip
          refine W_region rfl ?_
          refine WL_is (X_move rfl rfl) rfl rfl rfl ?_
          refine WL_is (X_move rfl rfl) rfl rfl rfl ?_
          refine WL_is (X_move rfl rfl) rfl rfl rfl ?_
          (refine WL_index_slN rfl rfl rfl rfl rfl (by assumption) (by omega) rfl rfl rfl ?_; intro p_ hp_)
          refine WL_is (X_loadA_at rfl rfl (by assumption) rfl rfl rfl) rfl rfl rfl ?_
          refine WL_buildSl (enc := encE) [l[i]] (lenE _) rfl rfl rfl rfl rfl rfl rfl rfl rfl rfl rfl rfl rfl rfl rfl ?_
          intro u H6 M6 hu
          refine WL_append (enc := encE) (L := L) (L' := [l[i]]) (i := 0) rfl rfl rfl elemE rfl rfl (Src.sl hu) (flatE _) (by simp only [List.length_singleton]; omega) (by simp only [List.length_singleton]; omega) rfl rfl rfl ?_
          intro v4
          simp only [List.set_cons_zero]
          refine WL_is (X_assign rfl rfl) rfl rfl rfl ?_
          (repeat (first | refine WL_nil ?_ | refine Then_normal ?_ | refine inBlk_normal ?_))
          skip
          refine W_region rfl ?_
          refine WL_is (X_move rfl rfl) rfl rfl rfl ?_
          refine WL_is (X_addW rfl rfl rfl (by exact wrap_i64_in (by omega) (by omega))) rfl rfl rfl ?_
          refine WL_is (X_assign rfl rfl) rfl rfl rfl ?_
          (repeat (first | refine WL_nil ?_ | refine Then_normal ?_))
          exact ⟨⟨i + 1, v4, L ++ [l[i]], _⟩, ⟨(by repeat (first | exact SubE_nil | refine SubE_cons rfl ?_)), rfl, SubR.refl _, rfl⟩, ⟨hg.trans M6, hil, hbe.symm, by dsimp only; rw [List.length_append]; exact hlm2⟩, by dsimp only; omega⟩
        · have hbe : behL f (l.take (i + 1)) = L := by
            rw [hta, behL_app, ← hL]
            have : ¬ f < cookS l[i].1 := hgt
            simp [behL, this]
          skip
          refine W_region rfl ?_
          refine WL_is (X_move rfl rfl) rfl rfl rfl ?_
          refine WL_is (X_move rfl rfl) rfl rfl rfl ?_
          (refine WL_index_slN rfl rfl rfl rfl rfl (by assumption) (by omega) rfl rfl rfl ?_; intro p_ hp_)
          (refine WL_fieldAddr_at rfl rfl (by assumption) rfl rfl rfl rfl ?_; intro p_ hp_)
          refine WL_is (X_load1_at rfl rfl (by assumption) rfl rfl) rfl rfl rfl ?_
          refine WL_is (X_move rfl rfl) rfl rfl rfl ?_
          refine WL_is (X_gtr_f rfl rfl rfl (by omega)) rfl rfl rfl ?_
          (repeat (first | refine WL_nil ?_ | refine Then_normal ?_ | refine W_skip ?_ | refine inBlk_normal ?_ | refine W_false rfl ?_))
          skip
          refine W_region rfl ?_
          refine WL_is (X_move rfl rfl) rfl rfl rfl ?_
          refine WL_is (X_addW rfl rfl rfl (by exact wrap_i64_in (by omega) (by omega))) rfl rfl rfl ?_
          refine WL_is (X_assign rfl rfl) rfl rfl rfl ?_
          (repeat (first | refine WL_nil ?_ | refine Then_normal ?_))
          exact ⟨⟨i + 1, _, L, _⟩, ⟨(by repeat (first | exact SubE_nil | refine SubE_cons rfl ?_)), rfl, SubR.refl _, rfl⟩, ⟨hg, hil, hbe.symm, hlm⟩, by dsimp only; omega⟩
      · have hi1 : ¬ (L.length : Int) < (mn : Int) := by omega
        have hLr : L = (behL f l).take mn := by
          rw [hpre, List.take_append_of_le_length (by omega), List.take_of_length_le (by omega)]
        rw [← hLr]
        (repeat (first | refine W_seq ?_))
        refine W_region rfl ?_
        refine WL_is (X_move rfl rfl) rfl rfl rfl ?_
        refine WL_is (X_move rfl rfl) rfl rfl rfl ?_
        refine WL_is (X_len_sl rfl rfl rfl (by assumption)) rfl rfl rfl ?_
        refine WL_is (X_lss_t rfl rfl rfl (by omega)) rfl rfl rfl ?_
        refine WL_is (X_move rfl rfl) rfl rfl rfl ?_
        refine WL_is (X_move rfl rfl) rfl rfl rfl ?_
        refine WL_is (X_len rfl rfl rfl) rfl rfl rfl ?_
        refine WL_is (X_move rfl rfl) rfl rfl rfl ?_
        refine WL_is (X_lss_f rfl rfl rfl (by omega)) rfl rfl rfl ?_
        refine WL_is (X_pick_t rfl rfl rfl) rfl rfl rfl ?_
        (repeat (first | refine WL_nil ?_ | refine Then_normal ?_ | refine W_seq ?_ | refine W_exit ?_ | refine Then_exit ?_ | refine inBlk_here ?_ | refine W_false rfl ?_))
        skip
        refine W_region rfl ?_
        refine WL_is (X_move rfl rfl) rfl rfl rfl ?_
        refine WL_is (X_assign rfl rfl) rfl rfl rfl ?_
        refine WL_is (X_assign rfl rfl) rfl rfl rfl ?_
        (repeat (first | refine WL_nil ?_ | refine Then_normal ?_ | refine W_ret ?_))
        refine Body_vals (.cons (.tmp rfl) (.cons (.tmp rfl) .nil)) rfl ?_
        exact (UpdE.row (enc := encE) 0 rfl (lenE _)).then fun R' h' hl ⟨_, s⟩ => UpdE.of (Upd.sub (SubR.none _)) ⟨⟨_, rfl, s⟩, rfl⟩
    · have hLr : L = (behL f l).take mn := by
        rw [hpre, List.drop_eq_nil_of_le (by omega)]
        simp only [behL, List.filter_nil, List.append_nil]
        rw [List.take_of_length_le hlm]
      rw [← hLr]
      (repeat (first | refine W_seq ?_))
      refine W_region rfl ?_
      refine WL_is (X_move rfl rfl) rfl rfl rfl ?_
      refine WL_is (X_move rfl rfl) rfl rfl rfl ?_
      refine WL_is (X_len_sl rfl rfl rfl (by assumption)) rfl rfl rfl ?_
      refine WL_is (X_lss_f rfl rfl rfl (by omega)) rfl rfl rfl ?_
      refine WL_is (X_move rfl rfl) rfl rfl rfl ?_
      refine WL_off rfl rfl rfl ?_
      refine WL_off rfl rfl rfl ?_
      refine WL_off rfl rfl rfl ?_
      refine WL_off rfl rfl rfl ?_
      refine WL_is (X_pick_f rfl rfl rfl) rfl rfl rfl ?_
      (repeat (first | refine WL_nil ?_ | refine Then_normal ?_ | refine W_seq ?_ | refine W_exit ?_ | refine Then_exit ?_ | refine inBlk_here ?_ | refine W_false rfl ?_))
      skip
      refine W_region rfl ?_
      refine WL_is (X_move rfl rfl) rfl rfl rfl ?_
      refine WL_is (X_assign rfl rfl) rfl rfl rfl ?_
      refine WL_is (X_assign rfl rfl) rfl rfl rfl ?_
      (repeat (first | refine WL_nil ?_ | refine Then_normal ?_ | refine W_ret ?_))
      refine Body_vals (.cons (.tmp rfl) (.cons (.tmp rfl) .nil)) rfl ?_
      exact (UpdE.row (enc := encE) 0 rfl (lenE _)).then fun R' h' hl ⟨_, s⟩ => UpdE.of (Upd.sub (SubR.none _)) ⟨⟨_, rfl, s⟩, rfl⟩
theorem eqEnt (a : Spo × Slo) : eqT Try.prog heldTs 8 59 (encE a) (encE a) = some true := by
  have h : eqT Try.prog heldTs 8 59 (encE a) (encE a) = some ((cookS a.1 == cookS a.1) && (((a.2.ino == a.2.ino) && ((a.2.kind == a.2.kind) && ((mkB a.2.nm == mkB a.2.nm) && true))) && true)) := rfl
  rw [h, mkB_beq]; simp
set_option maxHeartbeats 1000000 in
theorem same_ent (h : PH) (v1 v2 : Value) (l : List (Spo × Slo)) (h1 : Sl encE 4 h v1 l) (h2 : Sl encE 4 h v2 l) (hl : l.length ≤ 100000000) : Does Try.prog 21 [v1, v2] [] h (Ret fun r _ _ => r = .bool true) := by
  obtain ⟨a1, c1, rfl⟩ := h1.shape
  obtain ⟨a2, c2, rfl⟩ := h2.shape
  refine Does_of_W Try.func21 rfl (n := 26) rfl rfl (by simp only [argE, Nat.reduceAdd] <;> rfl) ?_
  (repeat (first | refine W_seq ?_))
  skip
  refine W_region rfl ?_
  refine WL_is (X_assign rfl rfl) rfl rfl rfl ?_
  (repeat (first | refine WL_nil ?_ | refine Then_normal ?_ | refine W_seq ?_))
  skip
  refine W_region rfl ?_
  refine WL_is (X_move rfl rfl) rfl rfl rfl ?_
  refine WL_is (X_len_sl rfl rfl rfl (by assumption)) rfl rfl rfl ?_
  refine WL_is (X_move rfl rfl) rfl rfl rfl ?_
  refine WL_is (X_len_sl rfl rfl rfl (by assumption)) rfl rfl rfl ?_
  refine WL_is (X_neq_f rfl rfl rfl (by omega)) rfl rfl rfl ?_
  (repeat (first | refine WL_nil ?_ | refine Then_normal ?_ | refine W_seq ?_ | refine W_skip ?_ | refine W_false rfl ?_))
  skip
  refine W_region rfl ?_
  refine WL_is (X_assign rfl rfl) rfl rfl rfl ?_
  (repeat (first | refine WL_nil ?_ | refine Then_normal ?_ | refine W_block ?_))
  refine W_loop (X := Nat) (L := fun i => ⟨[(5, .int .i64 (i : Int)), (0, .slice a1 l.length c1), (1, .slice a2 l.length c2)], [], [], h⟩) (p := fun i => i ≤ l.length) (μ := fun i => l.length - i) 0 ⟨(by repeat (first | exact SubE_nil | refine SubE_cons rfl ?_)), rfl, SubR.refl _, rfl⟩ (Nat.zero_le _) ?_
  rintro i hi
  by_cases hil : i < l.length
  · (repeat (first | refine W_seq ?_))
    refine W_region rfl ?_
    refine WL_is (X_move rfl rfl) rfl rfl rfl ?_
    refine WL_is (X_move rfl rfl) rfl rfl rfl ?_
    refine WL_is (X_len_sl rfl rfl rfl (by assumption)) rfl rfl rfl ?_
    refine WL_is (X_lss_t rfl rfl rfl (by omega)) rfl rfl rfl ?_
    (repeat (first | refine WL_nil ?_ | refine Then_normal ?_ | refine W_seq ?_ | refine W_skip ?_ | refine W_block ?_ | refine W_true rfl ?_))
    skip
    refine W_draw0 8 rfl rfl rfl rfl ?_
    refine RG_val rfl rfl (fun _ => rfl) (fun _ => X_move rfl rfl) ?_
    refine RG_val rfl rfl (fun _ => rfl) (fun _ => X_move rfl rfl) ?_
    (refine RG_index_slN rfl rfl rfl (fun _ => rfl) (fun _ => rfl) (by assumption) (by omega) rfl rfl (fun _ => rfl) ?_; intro p_ hp_)
    refine RG_val rfl rfl (fun _ => rfl) (fun _ => X_loadA_at rfl rfl (by assumption) rfl rfl rfl) ?_
    refine RG_val rfl rfl (fun _ => rfl) (fun _ => X_move rfl rfl) ?_
    refine RG_val rfl rfl (fun _ => rfl) (fun _ => X_move rfl rfl) ?_
    (refine RG_index_slN rfl rfl rfl (fun _ => rfl) (fun _ => rfl) (by assumption) (by omega) rfl rfl (fun _ => rfl) ?_; intro p_ hp_)
    refine RG_val rfl rfl (fun _ => rfl) (fun _ => X_loadA_at rfl rfl (by assumption) rfl rfl rfl) ?_
    refine RG_nil ?_
    refine RG_endv rfl (fun vs => by simp only [endE, List.cons_append, List.nil_append] <;> rfl) (fun vs => rfl) ?_
    refine WL_is (X_neA 8 heldOk guardOk rfl rfl rfl rfl rfl rfl (eqEnt l[i])) rfl rfl rfl ?_
    (repeat (first | refine WL_nil ?_ | refine Then_normal ?_ | refine W_skip ?_ | refine inBlk_normal ?_ | refine W_false rfl ?_))
    skip
    refine W_region rfl ?_
    refine WL_is (X_move rfl rfl) rfl rfl rfl ?_
    refine WL_is (X_addW rfl rfl rfl (by exact wrap_i64_in (by omega) (by omega))) rfl rfl rfl ?_
    refine WL_is (X_assign rfl rfl) rfl rfl rfl ?_
    (repeat (first | refine WL_nil ?_ | refine Then_normal ?_))
    exact ⟨i + 1, ⟨(by repeat (first | exact SubE_nil | refine SubE_cons rfl ?_)), rfl, SubR.refl _, rfl⟩, hil, by omega⟩
  · (repeat (first | refine W_seq ?_))
    refine W_region rfl ?_
    refine WL_is (X_move rfl rfl) rfl rfl rfl ?_
    refine WL_is (X_move rfl rfl) rfl rfl rfl ?_
    refine WL_is (X_len_sl rfl rfl rfl (by assumption)) rfl rfl rfl ?_
    refine WL_is (X_lss_f rfl rfl rfl (by omega)) rfl rfl rfl ?_
    (repeat (first | refine WL_nil ?_ | refine Then_normal ?_ | refine W_seq ?_ | refine W_exit ?_ | refine Then_exit ?_ | refine inBlk_here ?_ | refine W_false rfl ?_))
    skip
    refine W_region rfl ?_
    refine WL_is (X_assign rfl rfl) rfl rfl rfl ?_
    (repeat (first | refine WL_nil ?_ | refine Then_normal ?_ | refine W_ret ?_))
    refine Body_end rfl rfl rfl (SubR.none _) ?_
    rfl
end Go.Proofs.Ytgpanbmjmpondaa
