/- Names and paths: what a path is, as the chapter does it. -/
import Derived.Test.YthcolbdlalpcjaaNameG
namespace Go.Proofs.Ythcolbdlalpcjaa
set_option maxRecDepth 4000
open Go Go.Par PH
def lastT (ps : List Bs) (j : Nat) : Bs := (ps.take j).getLastD []
theorem lastT_succ {ps : List Bs} {j : Nat} (hj : j < ps.length) : lastT ps (j + 1) = ps[j] := by
  unfold lastT
  rw [List.take_add_one, List.getElem?_eq_getElem hj, Option.toList_some, List.getLastD_concat]
theorem take_succP {ps : List Bs} {j : Nat} (hj : j < ps.length) : ps.take (j + 1) = ps.take j ++ [ps[j]] := by
  rw [List.take_add_one, List.getElem?_eq_getElem hj]; rfl
attribute [local irreducible] W WL Does Exec Body Then inBlk RG WR row obj pblk
set_option maxHeartbeats 2000000 in
theorem split_fn (h : PH) (l : Bs) (hl : l.length ≤ 1000000) : Does Try.prog 15 [.string (mkB l)] [] h (Ret fun r R' h' => SplitA l r h' ∧ R' = []) := by
  have hsz := mkB_size l
  have he : (mkB l == (⟨#[]⟩ : ByteArray)) = decide (l = []) := mkB_beq l []
  have c0 := contains1_fn h (mkB l) 0
  rw [mkB_list] at c0
  refine Does_of_WM Try.func15 rfl (n := 57) rfl rfl (by simp only [argE] <;> rfl) ?_
  (repeat (first | refine W_seq ?_))
  refine W_region rfl ?_
  (refine WL_alloc rfl rfl rfl rfl rfl rfl ?_; intro b_)
  generalize b_ = rb
  refine WL_is (X_assign rfl rfl) rfl rfl rfl ?_
  refine WL_nil ?_
  refine Then_normal ?_
  refine W_scopeTo 0 rfl ?_
  (repeat (first | refine W_seq ?_))
  by_cases h0 : l = []
  · have hE : splitE l = 602 := by unfold splitE; rw [if_pos h0]
    rw [decide_eq_true h0] at he
    skip
    refine W_region rfl ?_
    (refine WL_alloc rfl rfl rfl rfl rfl rfl ?_; intro b_)
    (repeat (first | refine WL_nil ?_ | refine Then_normal ?_ | refine W_seq ?_))
    skip
    refine W_region rfl ?_
    (refine WL_alloc rfl rfl rfl rfl rfl rfl ?_; intro b_)
    (repeat (first | refine WL_nil ?_ | refine Then_normal ?_ | refine W_seq ?_))
    skip
    refine W_region rfl ?_
    refine WL_is (X_assign rfl rfl) rfl rfl rfl ?_
    (repeat (first | refine WL_nil ?_ | refine Then_normal ?_ | refine W_seq ?_))
    skip
    refine W_region rfl ?_
    refine WL_is (X_move rfl rfl) rfl rfl rfl ?_
    refine WL_is (X_eqS_c rfl rfl rfl (by assumption)) rfl rfl rfl ?_
    (repeat (first | refine WL_nil ?_ | refine Then_normal ?_ | refine W_seq ?_ | refine W_skip ?_ | refine W_goto ?_ | refine Then_goto ?_ | refine toG_here ?_ | refine W_true rfl ?_))
    skip
    refine W_region rfl ?_
    refine WL_is (X_build rfl rfl rfl) rfl rfl rfl ?_
    refine WL_is (X_move rfl rfl) rfl rfl rfl ?_
    refine WL_store rfl rfl rfl (by exact idx2) rfl rfl rfl rfl rfl rfl rfl rfl rfl ?_
    refine WL_is (X_assign rfl rfl) rfl rfl rfl ?_
    (repeat (first | refine WL_nil ?_ | refine Then_normal ?_ | refine W_ret ?_ | refine noG_ret ?_))
    refine BodyM_0 (Body_vals (.cons (.cellA rfl idx2 rfl rfl rfl) (.cons (.tmp rfl) .nil)) rfl ?_)
    exact UpdE.of (Upd.sub (SubR.none _)) ⟨SplitA.bad hE (by decide), rfl⟩
  · rw [decide_eq_false h0] at he
    by_cases h64 : ((mkB l).size : Int) > 64
    · have hE : splitE l = 636 := by unfold splitE; rw [if_neg h0, if_pos (by omega)]
      skip
      refine W_region rfl ?_
      (refine WL_alloc rfl rfl rfl rfl rfl rfl ?_; intro b_)
      (repeat (first | refine WL_nil ?_ | refine Then_normal ?_ | refine W_seq ?_))
      skip
      refine W_region rfl ?_
      (refine WL_alloc rfl rfl rfl rfl rfl rfl ?_; intro b_)
      (repeat (first | refine WL_nil ?_ | refine Then_normal ?_ | refine W_seq ?_))
      skip
      refine W_region rfl ?_
      refine WL_is (X_assign rfl rfl) rfl rfl rfl ?_
      (repeat (first | refine WL_nil ?_ | refine Then_normal ?_ | refine W_seq ?_))
      skip
      refine W_region rfl ?_
      refine WL_is (X_move rfl rfl) rfl rfl rfl ?_
      refine WL_is (X_eqS_c rfl rfl rfl (by assumption)) rfl rfl rfl ?_
      (repeat (first | refine WL_nil ?_ | refine Then_normal ?_ | refine W_seq ?_ | refine W_skip ?_ | refine W_false rfl ?_))
      skip
      refine W_region rfl ?_
      refine WL_is (X_assign rfl rfl) rfl rfl rfl ?_
      (repeat (first | refine WL_nil ?_ | refine Then_normal ?_ | refine W_seq ?_))
      skip
      refine W_region rfl ?_
      refine WL_is (X_move rfl rfl) rfl rfl rfl ?_
      refine WL_is (X_len_str rfl rfl rfl) rfl rfl rfl ?_
      refine WL_is (X_gtr_t rfl rfl rfl (by omega)) rfl rfl rfl ?_
      (repeat (first | refine WL_nil ?_ | refine Then_normal ?_ | refine W_seq ?_ | refine W_skip ?_ | refine W_goto ?_ | refine Then_goto ?_ | refine toG_here ?_ | refine W_true rfl ?_))
      skip
      refine W_region rfl ?_
      refine WL_is (X_build rfl rfl rfl) rfl rfl rfl ?_
      refine WL_is (X_move rfl rfl) rfl rfl rfl ?_
      refine WL_store rfl rfl rfl (by exact idx2) rfl rfl rfl rfl rfl rfl rfl rfl rfl ?_
      refine WL_is (X_assign rfl rfl) rfl rfl rfl ?_
      (repeat (first | refine WL_nil ?_ | refine Then_normal ?_ | refine W_ret ?_ | refine noG_ret ?_))
      refine BodyM_0 (Body_vals (.cons (.cellA rfl idx2 rfl rfl rfl) (.cons (.tmp rfl) .nil)) rfl ?_)
      exact UpdE.of (Upd.sub (SubR.none _)) ⟨SplitA.bad hE (by decide), rfl⟩
    · by_cases hn : (0 : UInt8) ∈ l
      · have hE : splitE l = 622 := by unfold splitE; rw [if_neg h0, if_neg (by omega), if_pos hn]
        rw [decide_eq_true hn] at c0
        skip
        refine W_region rfl ?_
        (refine WL_alloc rfl rfl rfl rfl rfl rfl ?_; intro b_)
        (repeat (first | refine WL_nil ?_ | refine Then_normal ?_ | refine W_seq ?_))
        skip
        refine W_region rfl ?_
        (refine WL_alloc rfl rfl rfl rfl rfl rfl ?_; intro b_)
        (repeat (first | refine WL_nil ?_ | refine Then_normal ?_ | refine W_seq ?_))
        skip
        refine W_region rfl ?_
        refine WL_is (X_assign rfl rfl) rfl rfl rfl ?_
        (repeat (first | refine WL_nil ?_ | refine Then_normal ?_ | refine W_seq ?_))
        skip
        refine W_region rfl ?_
        refine WL_is (X_move rfl rfl) rfl rfl rfl ?_
        refine WL_is (X_eqS_c rfl rfl rfl (by assumption)) rfl rfl rfl ?_
        (repeat (first | refine WL_nil ?_ | refine Then_normal ?_ | refine W_seq ?_ | refine W_skip ?_ | refine W_false rfl ?_))
        skip
        refine W_region rfl ?_
        refine WL_is (X_assign rfl rfl) rfl rfl rfl ?_
        (repeat (first | refine WL_nil ?_ | refine Then_normal ?_ | refine W_seq ?_))
        skip
        refine W_region rfl ?_
        refine WL_is (X_move rfl rfl) rfl rfl rfl ?_
        refine WL_is (X_len_str rfl rfl rfl) rfl rfl rfl ?_
        refine WL_is (X_gtr_f rfl rfl rfl (by omega)) rfl rfl rfl ?_
        (repeat (first | refine WL_nil ?_ | refine Then_normal ?_ | refine W_seq ?_ | refine W_skip ?_ | refine W_false rfl ?_))
        skip
        refine W_region rfl ?_
        refine WL_is (X_move rfl rfl) rfl rfl rfl ?_
        refine WL_is (X_callv rfl rfl rfl Try.func20 rfl (by assumption)) rfl rfl rfl ?_
        (repeat (first | refine WL_nil ?_ | refine Then_normal ?_ | refine W_seq ?_ | refine W_true rfl ?_))
        skip
        refine W_region rfl ?_
        refine WL_is (X_assign rfl rfl) rfl rfl rfl ?_
        (repeat (first | refine WL_nil ?_ | refine Then_normal ?_ | refine W_seq ?_ | refine W_skip ?_ | refine W_goto ?_ | refine Then_goto ?_ | refine toG_here ?_))
        skip
        refine W_region rfl ?_
        refine WL_is (X_build rfl rfl rfl) rfl rfl rfl ?_
        refine WL_is (X_move rfl rfl) rfl rfl rfl ?_
        refine WL_store rfl rfl rfl (by exact idx2) rfl rfl rfl rfl rfl rfl rfl rfl rfl ?_
        refine WL_is (X_assign rfl rfl) rfl rfl rfl ?_
        (repeat (first | refine WL_nil ?_ | refine Then_normal ?_ | refine W_ret ?_ | refine noG_ret ?_))
        refine BodyM_0 (Body_vals (.cons (.cellA rfl idx2 rfl rfl rfl) (.cons (.tmp rfl) .nil)) rfl ?_)
        exact UpdE.of (Upd.sub (SubR.none _)) ⟨SplitA.bad hE (by decide), rfl⟩
      · have hE : splitE l = if (partsL l).any bigB = true then 636 else 0 := by unfold splitE; rw [if_neg h0, if_neg (by omega), if_neg hn]
        rw [decide_eq_false hn] at c0
        have hpl := parts_len l []
        change (partsL l).length ≤ l.length + 1 at hpl
        have hit := fun b h' => parts_iter h' b l hl
        have hgood : ∀ {h : PH} {x : Value}, splitE l = 0 → Sl encP 1 h x (partsL l) → SplitA l (.tuple #[pthV ⟨headB l, dirB l, partsL l⟩ x, .int .i64 0]) h := fun a b => SplitA.good a b
        unfold dirB at hgood
        unfold partA at hit
        obtain ⟨ps, hps⟩ : ∃ ps, ps = partsL l := ⟨_, rfl⟩
        rw [← hps] at hE hpl hit hgood
        skip
        refine W_region rfl ?_
        (refine WL_alloc rfl rfl rfl rfl rfl rfl ?_; intro b_)
        (repeat (first | refine WL_nil ?_ | refine Then_normal ?_ | refine W_seq ?_))
        generalize b_ = pb
        skip
        refine W_region rfl ?_
        (refine WL_alloc rfl rfl rfl rfl rfl rfl ?_; intro b_)
        (repeat (first | refine WL_nil ?_ | refine Then_normal ?_ | refine W_seq ?_))
        generalize b_ = lb
        skip
        refine W_region rfl ?_
        refine WL_is (X_assign rfl rfl) rfl rfl rfl ?_
        (repeat (first | refine WL_nil ?_ | refine Then_normal ?_ | refine W_seq ?_))
        skip
        refine W_region rfl ?_
        refine WL_is (X_move rfl rfl) rfl rfl rfl ?_
        refine WL_is (X_eqS_c rfl rfl rfl (by assumption)) rfl rfl rfl ?_
        (repeat (first | refine WL_nil ?_ | refine Then_normal ?_ | refine W_seq ?_ | refine W_skip ?_ | refine W_false rfl ?_))
        skip
        refine W_region rfl ?_
        refine WL_is (X_assign rfl rfl) rfl rfl rfl ?_
        (repeat (first | refine WL_nil ?_ | refine Then_normal ?_ | refine W_seq ?_))
        skip
        refine W_region rfl ?_
        refine WL_is (X_move rfl rfl) rfl rfl rfl ?_
        refine WL_is (X_len_str rfl rfl rfl) rfl rfl rfl ?_
        refine WL_is (X_gtr_f rfl rfl rfl (by omega)) rfl rfl rfl ?_
        (repeat (first | refine WL_nil ?_ | refine Then_normal ?_ | refine W_seq ?_ | refine W_skip ?_ | refine W_false rfl ?_))
        skip
        refine W_region rfl ?_
        refine WL_is (X_move rfl rfl) rfl rfl rfl ?_
        refine WL_is (X_callv rfl rfl rfl Try.func20 rfl (by assumption)) rfl rfl rfl ?_
        (repeat (first | refine WL_nil ?_ | refine Then_normal ?_ | refine W_seq ?_ | refine W_skip ?_ | refine W_false rfl ?_))
        skip
        refine W_region rfl ?_
        refine WL_is (X_move rfl rfl) rfl rfl rfl ?_
        refine WL_call rfl rfl rfl Try.func24 rfl rfl rfl rfl (parts_fn h l) ?_
        rintro _ _ H1 M1 ⟨cb, rfl, rfl⟩
        simp only [List.cons_append, List.nil_append]
        refine WL_upd (Upd.nilrow (e := 9) (sz := 1)) ?_
        (repeat (first | refine WL_nil ?_ | refine Then_normal ?_ | refine W_block ?_))
        refine W_rangeF (X := Nat × Value) (N := ps.length) (args := fun i => [.string (mkB (ps[i]?.getD []))]) (RC := [blk cb [.string (mkB l)] 9]) (R2 := [blk rb (pthC pth0 (.slice none 0 0)) 29]) (fun x => [rowL encP x.2 9 1 (ps.take x.1), blk lb [.string (mkB (lastT ps x.1))] 9, blk pb (pthC pth0 x.2) 29]) (fun i x => x.1 = i) (fun _ _ _ => False) (0, .slice none 0 0) rfl Try.func34 rfl (by decide) (fun _ => rfl) rfl (fun _ => rfl) (((List.Perm.swap _ _ _).trans (.cons _ (.swap _ _ _))).cons _) rfl (fun h' _ => hit cb h') ?_ ?_ ?_
        · rintro lp j ⟨j', x⟩ H4 hj L4 hx
          dsimp only at hx
          subst hx
          simp only [putL, List.getElem?_eq_getElem hj, Option.getD_some]
          have htl : (ps.take j').length = j' := by rw [List.length_take]; omega
          refine W_updE (UpdE.shapeL 0 rfl) ?_
          rintro _ _ - ⟨rfl, rfl, xa, xc, rfl⟩
          skip
          refine W_region rfl ?_
          refine WL_is (X_assign rfl rfl) rfl rfl rfl ?_
          (repeat (first | refine WL_nil ?_ | refine Then_normal ?_ | refine W_seq ?_ | refine W_block ?_))
          skip
          refine W_region rfl ?_
          refine WL_is (X_fieldAddr rfl rfl rfl (by simp only [Nat.zero_add] <;> rfl)) rfl rfl rfl ?_
          refine WL_is (X_load1 rfl rfl (by exact idx2) rfl rfl) rfl rfl rfl ?_
          refine WL_is (X_move rfl rfl) rfl rfl rfl ?_
          refine WL_buildSl (enc := encP) [ps[j']] (lenP _) rfl rfl rfl rfl rfl rfl rfl rfl rfl rfl rfl rfl rfl rfl rfl ?_
          intro u H5 M5 hu
          refine WL_append (enc := encP) (L := ps.take j') (L' := [ps[j']]) (i := 0) rfl rfl rfl elemP rfl rfl (Src.sl hu) (flatP _) (by simp only [List.length_singleton]; omega) (by simp only [List.length_singleton]; omega) rfl rfl rfl ?_
          intro v3
          simp only [List.set_cons_zero, ← take_succP hj]
          refine WL_updE (UpdE.shapeL 0 rfl) ?_
          rintro _ _ - ⟨rfl, rfl, xa2, xc2, rfl⟩
          refine WL_is (X_fieldAddr rfl rfl rfl (by simp only [Nat.zero_add] <;> rfl)) rfl rfl rfl ?_
          refine WL_store rfl rfl rfl (by exact idx2) rfl rfl rfl rfl rfl rfl rfl rfl rfl ?_
          (repeat (first | refine WL_nil ?_ | refine Then_normal ?_))
          skip
          refine W_region rfl ?_
          refine WL_is (X_move rfl rfl) rfl rfl rfl ?_
          refine WL_store rfl rfl rfl (by exact idx1) rfl rfl rfl rfl rfl rfl rfl rfl rfl ?_
          (repeat (first | refine WL_nil ?_ | refine inBlk_normal ?_))
          refine ⟨(j' + 1, .slice xa2 (ps.take (j' + 1)).length xc2), ?_, rfl⟩
          dsimp only
          rw [lastT_succ hj]
          exact SubR.refl _
        · rintro b3 ⟨j', x⟩ H4 L4 hx
          dsimp only at hx
          subst hx
          dsimp only
          rw [List.take_length]
          have hla : lastT ps ps.length = ps.getLastD [] := by unfold lastT; rw [List.take_length]
          rw [hla]
          simp only [List.cons_append, List.nil_append]
          (repeat (first | refine Then_normal ?_ | refine W_seq ?_ | refine inBlk_normal ?_))
          refine W_updE (UpdE.row (enc := encP) 0 rfl (lenP _)) ?_
          rintro _ H5 M5 ⟨rfl, s1⟩
          obtain ⟨a, c, rfl⟩ := s1.shape
          simp only [List.eraseIdx_cons_zero]
          have hp1 := hasPre_fn H5 l
          have hp2 := hasSuf_fn H5 l hl
          have hd := dots_fn H5 (ps.getLastD [])
          skip
          refine W_region rfl ?_
          refine WL_is (X_fieldAddr rfl rfl rfl (by simp only [Nat.zero_add] <;> rfl)) rfl rfl rfl ?_
          refine WL_is (X_load1 rfl rfl (by exact idx1) rfl rfl) rfl rfl rfl ?_
          refine WL_is (X_len_sl rfl rfl rfl (by assumption)) rfl rfl rfl ?_
          refine WL_is (X_move rfl rfl) rfl rfl rfl ?_
          (repeat (first | refine WL_nil ?_ | refine Then_normal ?_ | refine W_block ?_))
          refine W_loop (X := Nat) (L := fun j => ⟨[(30, .int .i64 (j : Int)), (29, .int .i64 (ps.length : Int)), (28, .slice a ps.length c), (0, .string (mkB l)), (2, .pointer (some ⟨rb, 0, none⟩)), (4, .pointer (some ⟨pb, 0, none⟩)), (5, .pointer (some ⟨lb, 0, none⟩)), (6, .int .i64 636)], [mkd b3], [blk lb [.string (mkB (ps.getLastD []))] 9, blk pb (pthC pth0 (.slice a ps.length c)) 29, obj b3 (.deferred (some [])), blk rb (pthC pth0 (.slice none 0 0)) 29], H5⟩) (p := fun j => j ≤ ps.length ∧ (ps.take j).any bigB = false) (μ := fun j => ps.length - j) 0 ⟨(by repeat (first | exact SubE_nil | refine SubE_cons rfl ?_)), rfl, SubR.refl _, rfl⟩ ⟨Nat.zero_le _, rfl⟩ ?_
          rintro j ⟨hj, hno⟩
          by_cases hlt : j < ps.length
          · have htk := anyB_take hlt
            rw [hno, Bool.false_or] at htk
            have hjs := mkB_size ps[j]
            by_cases hb : ((mkB ps[j]).size : Int) > 16
            · have hbb : bigB ps[j] = true := decide_eq_true (by omega)
              rw [hbb] at htk
              rw [if_pos (anyB_of_take htk)] at hE
              (repeat (first | refine W_seq ?_))
              refine W_region rfl ?_
              refine WL_is (X_lss_t rfl rfl rfl (by omega)) rfl rfl rfl ?_
              (repeat (first | refine WL_nil ?_ | refine Then_normal ?_ | refine W_seq ?_ | refine W_skip ?_ | refine W_block ?_ | refine W_true rfl ?_))
              skip
              refine W_region rfl ?_
              (refine WL_index_slN rfl rfl rfl rfl rfl (by assumption) (by omega) rfl rfl rfl ?_; intro p_ hp_)
              refine WL_is (X_load1_at rfl rfl (by assumption) rfl rfl) rfl rfl rfl ?_
              refine WL_is (X_assign rfl rfl) rfl rfl rfl ?_
              (repeat (first | refine WL_nil ?_ | refine Then_normal ?_ | refine W_seq ?_))
              skip
              refine W_region rfl ?_
              refine WL_is (X_move rfl rfl) rfl rfl rfl ?_
              refine WL_is (X_len_str rfl rfl rfl) rfl rfl rfl ?_
              refine WL_is (X_gtr_t rfl rfl rfl (by omega)) rfl rfl rfl ?_
              (repeat (first | refine WL_nil ?_ | refine Then_normal ?_ | refine W_seq ?_ | refine W_skip ?_ | refine W_goto ?_ | refine Then_goto ?_ | refine inBlk_goto ?_ | refine toG_here ?_ | refine W_true rfl ?_))
              skip
              refine W_region rfl ?_
              refine WL_is (X_build rfl rfl rfl) rfl rfl rfl ?_
              refine WL_is (X_move rfl rfl) rfl rfl rfl ?_
              refine WL_store rfl rfl rfl (by exact idx3) rfl rfl rfl rfl rfl rfl rfl rfl rfl ?_
              refine WL_is (X_assign rfl rfl) rfl rfl rfl ?_
              (repeat (first | refine WL_nil ?_ | refine Then_normal ?_ | refine W_ret ?_ | refine noG_ret ?_))
              refine BodyM_1 (R1 := [blk lb [.string (mkB (ps.getLastD []))] 9, blk pb (pthC pth0 (.slice a ps.length c)) 29, blk rb (pthC pth0 (.slice none 0 0)) 29]) (SubR.of_perm (perm_front 2 rfl)) ?_
              refine Body_vals (.cons (.cellA rfl idx2 rfl rfl rfl) (.cons (.tmp rfl) .nil)) rfl ?_
              exact UpdE.of (Upd.sub (SubR.none _)) ⟨SplitA.bad hE (by decide), rfl⟩
            · have hbb : bigB ps[j] = false := decide_eq_false (by omega)
              (repeat (first | refine W_seq ?_))
              refine W_region rfl ?_
              refine WL_is (X_lss_t rfl rfl rfl (by omega)) rfl rfl rfl ?_
              (repeat (first | refine WL_nil ?_ | refine Then_normal ?_ | refine W_seq ?_ | refine W_skip ?_ | refine W_block ?_ | refine W_true rfl ?_))
              skip
              refine W_region rfl ?_
              (refine WL_index_slN rfl rfl rfl rfl rfl (by assumption) (by omega) rfl rfl rfl ?_; intro p_ hp_)
              refine WL_is (X_load1_at rfl rfl (by assumption) rfl rfl) rfl rfl rfl ?_
              refine WL_is (X_assign rfl rfl) rfl rfl rfl ?_
              (repeat (first | refine WL_nil ?_ | refine Then_normal ?_ | refine W_seq ?_))
              skip
              refine W_region rfl ?_
              refine WL_is (X_move rfl rfl) rfl rfl rfl ?_
              refine WL_is (X_len_str rfl rfl rfl) rfl rfl rfl ?_
              refine WL_is (X_gtr_f rfl rfl rfl (by omega)) rfl rfl rfl ?_
              (repeat (first | refine WL_nil ?_ | refine Then_normal ?_ | refine W_skip ?_ | refine inBlk_normal ?_ | refine W_false rfl ?_))
              skip
              refine W_region rfl ?_
              refine WL_is (X_addW rfl rfl rfl (by exact wrap_i64_in (by omega) (by omega))) rfl rfl rfl ?_
              refine WL_is (X_move rfl rfl) rfl rfl rfl ?_
              (repeat (first | refine WL_nil ?_ | refine Then_normal ?_))
              exact ⟨j + 1, ⟨(by repeat (first | exact SubE_nil | refine SubE_cons rfl ?_)), rfl, SubR.refl _, rfl⟩, ⟨by omega, by rw [htk, hbb]⟩, by omega⟩
          · rw [List.take_of_length_le (by omega)] at hno
            rw [hno, if_neg (by decide)] at hE
            have fin : ∀ (R : List SL) (y : Bool), y = (lastB l || decide (ps = []) || dotsB (ps.getLastD [])) → UpdE R H5 (fun R' h' => SplitA l (.tuple #[.agg #[.bool (headB l), .bool y, .slice a ps.length c], .int .i64 0]) h' ∧ R' = []) := fun R y hy => by
              subst hy
              exact UpdE.of (Upd.sub (SubR.none _)) ⟨hgood hE s1, rfl⟩
            cases hlb : lastB l with
            | true =>
              rw [hlb] at hp2 fin
              (repeat (first | refine W_seq ?_))
              refine W_region rfl ?_
              refine WL_is (X_lss_f rfl rfl rfl (by omega)) rfl rfl rfl ?_
              (repeat (first | refine WL_nil ?_ | refine Then_normal ?_ | refine W_seq ?_ | refine W_exit ?_ | refine Then_exit ?_ | refine inBlk_here ?_ | refine W_false rfl ?_))
              skip
              refine W_region rfl ?_
              refine WL_is (X_move rfl rfl) rfl rfl rfl ?_
              refine WL_is (X_callv rfl rfl rfl Try.func25 rfl (by assumption)) rfl rfl rfl ?_
              refine WL_is (X_fieldAddr rfl rfl rfl (by simp only [Nat.zero_add] <;> rfl)) rfl rfl rfl ?_
              refine WL_store rfl rfl rfl (by exact idx1) rfl rfl rfl rfl rfl rfl rfl rfl rfl ?_
              (repeat (first | refine WL_nil ?_ | refine Then_normal ?_ | refine W_seq ?_))
              skip
              refine W_region rfl ?_
              refine WL_is (X_move rfl rfl) rfl rfl rfl ?_
              refine WL_is (X_callv rfl rfl rfl Try.func26 rfl (by assumption)) rfl rfl rfl ?_
              refine WL_is (X_move rfl rfl) rfl rfl rfl ?_
              refine WL_off rfl rfl rfl ?_
              refine WL_off rfl rfl rfl ?_
              refine WL_off rfl rfl rfl ?_
              refine WL_off rfl rfl rfl ?_
              refine WL_is (X_pick_t rfl rfl rfl) rfl rfl rfl ?_
              refine WL_is (X_move rfl rfl) rfl rfl rfl ?_
              refine WL_off rfl rfl rfl ?_
              refine WL_off rfl rfl rfl ?_
              refine WL_is (X_pick_t rfl rfl rfl) rfl rfl rfl ?_
              refine WL_is (X_fieldAddr rfl rfl rfl (by simp only [Nat.zero_add] <;> rfl)) rfl rfl rfl ?_
              refine WL_store rfl rfl rfl (by exact idx1) rfl rfl rfl rfl rfl rfl rfl rfl rfl ?_
              (repeat (first | refine WL_nil ?_ | refine Then_normal ?_ | refine W_seq ?_))
              skip
              refine W_region rfl ?_
              refine WL_is (X_loadA rfl rfl (by exact idx1) rfl rfl rfl) rfl rfl rfl ?_
              refine WL_store rfl rfl rfl (by exact idx3) rfl rfl rfl rfl rfl rfl rfl rfl rfl ?_
              refine WL_is (X_assign rfl rfl) rfl rfl rfl ?_
              (repeat (first | refine WL_nil ?_ | refine Then_normal ?_ | refine W_ret ?_ | refine Then_ret ?_ | refine toG_ret ?_))
              refine BodyM_1 (R1 := [blk lb [.string (mkB (ps.getLastD []))] 9, blk pb (pthC ⟨headB l, true, ps⟩ (.slice a ps.length c)) 29, blk rb (pthC ⟨headB l, true, ps⟩ (.slice a ps.length c)) 29]) (SubR.of_perm (perm_front 2 rfl)) ?_
              refine Body_vals (.cons (.cellA rfl idx2 rfl rfl rfl) (.cons (.tmp rfl) .nil)) rfl ?_
              exact fin _ _ (rfl)
            | false =>
              rw [hlb] at hp2 fin
              by_cases hz : ps.length = 0
              · have hzi : (ps.length : Int) = 0 := by omega
                have hnil : ps = [] := List.eq_nil_of_length_eq_zero hz
                (repeat (first | refine W_seq ?_))
                refine W_region rfl ?_
                refine WL_is (X_lss_f rfl rfl rfl (by omega)) rfl rfl rfl ?_
                (repeat (first | refine WL_nil ?_ | refine Then_normal ?_ | refine W_seq ?_ | refine W_exit ?_ | refine Then_exit ?_ | refine inBlk_here ?_ | refine W_false rfl ?_))
                skip
                refine W_region rfl ?_
                refine WL_is (X_move rfl rfl) rfl rfl rfl ?_
                refine WL_is (X_callv rfl rfl rfl Try.func25 rfl (by assumption)) rfl rfl rfl ?_
                refine WL_is (X_fieldAddr rfl rfl rfl (by simp only [Nat.zero_add] <;> rfl)) rfl rfl rfl ?_
                refine WL_store rfl rfl rfl (by exact idx1) rfl rfl rfl rfl rfl rfl rfl rfl rfl ?_
                (repeat (first | refine WL_nil ?_ | refine Then_normal ?_ | refine W_seq ?_))
                skip
                refine W_region rfl ?_
                refine WL_is (X_move rfl rfl) rfl rfl rfl ?_
                refine WL_is (X_callv rfl rfl rfl Try.func26 rfl (by assumption)) rfl rfl rfl ?_
                refine WL_is (X_move rfl rfl) rfl rfl rfl ?_
                refine WL_is (X_fieldAddr rfl rfl rfl (by simp only [Nat.zero_add] <;> rfl)) rfl rfl rfl ?_
                refine WL_is (X_load1 rfl rfl (by exact idx1) rfl rfl) rfl rfl rfl ?_
                refine WL_is (X_len_sl rfl rfl rfl (by assumption)) rfl rfl rfl ?_
                refine WL_is (X_eql_t rfl rfl rfl (by omega)) rfl rfl rfl ?_
                refine WL_is (X_pick_f rfl rfl rfl) rfl rfl rfl ?_
                refine WL_is (X_move rfl rfl) rfl rfl rfl ?_
                refine WL_off rfl rfl rfl ?_
                refine WL_off rfl rfl rfl ?_
                refine WL_is (X_pick_t rfl rfl rfl) rfl rfl rfl ?_
                refine WL_is (X_fieldAddr rfl rfl rfl (by simp only [Nat.zero_add] <;> rfl)) rfl rfl rfl ?_
                refine WL_store rfl rfl rfl (by exact idx1) rfl rfl rfl rfl rfl rfl rfl rfl rfl ?_
                (repeat (first | refine WL_nil ?_ | refine Then_normal ?_ | refine W_seq ?_))
                skip
                refine W_region rfl ?_
                refine WL_is (X_loadA rfl rfl (by exact idx1) rfl rfl rfl) rfl rfl rfl ?_
                refine WL_store rfl rfl rfl (by exact idx3) rfl rfl rfl rfl rfl rfl rfl rfl rfl ?_
                refine WL_is (X_assign rfl rfl) rfl rfl rfl ?_
                (repeat (first | refine WL_nil ?_ | refine Then_normal ?_ | refine W_ret ?_ | refine Then_ret ?_ | refine toG_ret ?_))
                refine BodyM_1 (R1 := [blk lb [.string (mkB (ps.getLastD []))] 9, blk pb (pthC ⟨headB l, true, ps⟩ (.slice a ps.length c)) 29, blk rb (pthC ⟨headB l, true, ps⟩ (.slice a ps.length c)) 29]) (SubR.of_perm (perm_front 2 rfl)) ?_
                refine Body_vals (.cons (.cellA rfl idx2 rfl rfl rfl) (.cons (.tmp rfl) .nil)) rfl ?_
                exact fin _ _ (by rw [decide_eq_true hnil]; rfl)
              · have hzi : ¬ (ps.length : Int) = 0 := by omega
                have hnil : ¬ ps = [] := fun e => hz (by rw [e]; rfl)
                (repeat (first | refine W_seq ?_))
                refine W_region rfl ?_
                refine WL_is (X_lss_f rfl rfl rfl (by omega)) rfl rfl rfl ?_
                (repeat (first | refine WL_nil ?_ | refine Then_normal ?_ | refine W_seq ?_ | refine W_exit ?_ | refine Then_exit ?_ | refine inBlk_here ?_ | refine W_false rfl ?_))
                skip
                refine W_region rfl ?_
                refine WL_is (X_move rfl rfl) rfl rfl rfl ?_
                refine WL_is (X_callv rfl rfl rfl Try.func25 rfl (by assumption)) rfl rfl rfl ?_
                refine WL_is (X_fieldAddr rfl rfl rfl (by simp only [Nat.zero_add] <;> rfl)) rfl rfl rfl ?_
                refine WL_store rfl rfl rfl (by exact idx1) rfl rfl rfl rfl rfl rfl rfl rfl rfl ?_
                (repeat (first | refine WL_nil ?_ | refine Then_normal ?_ | refine W_seq ?_))
                skip
                refine W_region rfl ?_
                refine WL_is (X_move rfl rfl) rfl rfl rfl ?_
                refine WL_is (X_callv rfl rfl rfl Try.func26 rfl (by assumption)) rfl rfl rfl ?_
                refine WL_is (X_move rfl rfl) rfl rfl rfl ?_
                refine WL_is (X_fieldAddr rfl rfl rfl (by simp only [Nat.zero_add] <;> rfl)) rfl rfl rfl ?_
                refine WL_is (X_load1 rfl rfl (by exact idx1) rfl rfl) rfl rfl rfl ?_
                refine WL_is (X_len_sl rfl rfl rfl (by assumption)) rfl rfl rfl ?_
                refine WL_is (X_eql_f rfl rfl rfl (by omega)) rfl rfl rfl ?_
                refine WL_is (X_pick_f rfl rfl rfl) rfl rfl rfl ?_
                refine WL_is (X_move rfl rfl) rfl rfl rfl ?_
                refine WL_is (X_load1 rfl rfl (by exact idx0) rfl rfl) rfl rfl rfl ?_
                refine WL_is (X_callv rfl rfl rfl Try.func11 rfl (by assumption)) rfl rfl rfl ?_
                refine WL_is (X_pick_f rfl rfl rfl) rfl rfl rfl ?_
                refine WL_is (X_fieldAddr rfl rfl rfl (by simp only [Nat.zero_add] <;> rfl)) rfl rfl rfl ?_
                refine WL_store rfl rfl rfl (by exact idx1) rfl rfl rfl rfl rfl rfl rfl rfl rfl ?_
                (repeat (first | refine WL_nil ?_ | refine Then_normal ?_ | refine W_seq ?_))
                skip
                refine W_region rfl ?_
                refine WL_is (X_loadA rfl rfl (by exact idx1) rfl rfl rfl) rfl rfl rfl ?_
                refine WL_store rfl rfl rfl (by exact idx3) rfl rfl rfl rfl rfl rfl rfl rfl rfl ?_
                refine WL_is (X_assign rfl rfl) rfl rfl rfl ?_
                (repeat (first | refine WL_nil ?_ | refine Then_normal ?_ | refine W_ret ?_ | refine Then_ret ?_ | refine toG_ret ?_))
                refine BodyM_1 (R1 := [blk lb [.string (mkB (ps.getLastD []))] 9, blk pb (pthC ⟨headB l, dotsB (ps.getLastD []), ps⟩ (.slice a ps.length c)) 29, blk rb (pthC ⟨headB l, dotsB (ps.getLastD []), ps⟩ (.slice a ps.length c)) 29]) (SubR.of_perm (perm_front 2 rfl)) ?_
                refine Body_vals (.cons (.cellA rfl idx2 rfl rfl rfl) (.cons (.tmp rfl) .nil)) rfl ?_
                exact fin _ _ (by rw [decide_eq_false hnil]; rfl)
        · rintro _ _ _ _ _ _ _ hf; exact hf.elim
end Go.Proofs.Ythcolbdlalpcjaa
