/- Names and paths: what a path is, by the second text. -/
import Derived.Test.YthcolbdlalpcjaaNameE
namespace Go.Proofs.Ythcolbdlalpcjaa
set_option maxRecDepth 4000
open Go Go.Par PH
def SplitA (l : Bs) (r : Value) (h : PH) : Prop := ∃ w, r = .tuple #[w, .int .i64 (splitE l)] ∧ PthV h w (splitR l)
theorem SplitA.bad {l : Bs} {e : Int} {h : PH} (he : splitE l = e) (h0 : ¬ e = 0) : SplitA l (.tuple #[pthV pth0 (.slice none 0 0), .int .i64 e]) h := by
  refine ⟨_, by rw [he], ?_⟩
  rw [splitR_bad (by rw [he]; exact h0)]
  exact PthV.zero
theorem SplitA.good {l : Bs} {h : PH} {x : Value} (he : splitE l = 0) (hs : Sl encP 1 h x (partsL l)) : SplitA l (.tuple #[pthV ⟨headB l, dirB l, partsL l⟩ x, .int .i64 0]) h := by
  refine ⟨_, by rw [he], ?_⟩
  unfold splitR
  rw [if_pos he]
  exact ⟨_, rfl, hs⟩
attribute [local irreducible] W WL Does Exec Body Then inBlk RG WR row obj pblk
set_option maxHeartbeats 1000000 in
theorem split_ref (h : PH) (l : Bs) (hl : l.length ≤ 1000000) : Does Try.prog 16 [.string (mkB l)] [] h (Ret fun r R' h' => SplitA l r h' ∧ R' = []) := by
  have hsz := mkB_size l
  have he : (mkB l == (⟨#[]⟩ : ByteArray)) = decide (l = []) := mkB_beq l []
  have c0 : Does Try.prog 21 [.string (mkB l), .int .u8 0] [] h (Ret fun r _ _ => r = .bool (decide ((0 : UInt8) ∈ l))) := hasC_ref h l 0 hl
  refine Does_of_W Try.func16 rfl (n := 58) rfl rfl (by simp only [argE] <;> rfl) ?_
  by_cases h0 : l = []
  · have hE : splitE l = 602 := by unfold splitE; rw [if_pos h0]
    rw [decide_eq_true h0] at he
    (repeat (first | refine W_seq ?_))
    skip
    refine W_region rfl ?_
    (refine WL_alloc rfl rfl rfl rfl rfl rfl ?_; intro b_)
    refine WL_is (X_assign rfl rfl) rfl rfl rfl ?_
    (repeat (first | refine WL_nil ?_ | refine Then_normal ?_ | refine W_seq ?_))
    skip
    refine W_region rfl ?_
    refine WL_is (X_move rfl rfl) rfl rfl rfl ?_
    refine WL_is (X_eqS_c rfl rfl rfl (by assumption)) rfl rfl rfl ?_
    (repeat (first | refine WL_nil ?_ | refine Then_normal ?_ | refine W_seq ?_ | refine W_true rfl ?_))
    skip
    refine W_region rfl ?_
    refine WL_is (X_build rfl rfl rfl) rfl rfl rfl ?_
    refine WL_store rfl rfl rfl (by exact idx0) rfl rfl rfl rfl rfl rfl rfl rfl rfl ?_
    refine WL_is (X_assign rfl rfl) rfl rfl rfl ?_
    (repeat (first | refine WL_nil ?_ | refine Then_normal ?_ | refine W_ret ?_ | refine Then_ret ?_))
    refine Body_vals (.cons (.cellA rfl idx0 rfl rfl rfl) (.cons (.tmp rfl) .nil)) rfl ?_
    exact UpdE.of (Upd.sub (SubR.none _)) ⟨SplitA.bad hE (by decide), rfl⟩
  · rw [decide_eq_false h0] at he
    by_cases h64 : ((mkB l).size : Int) > 64
    · have hE : splitE l = 636 := by unfold splitE; rw [if_neg h0, if_pos (by omega)]
      (repeat (first | refine W_seq ?_))
      skip
      refine W_region rfl ?_
      (refine WL_alloc rfl rfl rfl rfl rfl rfl ?_; intro b_)
      refine WL_is (X_assign rfl rfl) rfl rfl rfl ?_
      (repeat (first | refine WL_nil ?_ | refine Then_normal ?_ | refine W_seq ?_))
      skip
      refine W_region rfl ?_
      refine WL_is (X_move rfl rfl) rfl rfl rfl ?_
      refine WL_is (X_eqS_c rfl rfl rfl (by assumption)) rfl rfl rfl ?_
      (repeat (first | refine WL_nil ?_ | refine Then_normal ?_ | refine W_seq ?_ | refine W_skip ?_ | refine W_false rfl ?_))
      skip
      refine W_region rfl ?_
      refine WL_is (X_move rfl rfl) rfl rfl rfl ?_
      refine WL_is (X_len_str rfl rfl rfl) rfl rfl rfl ?_
      refine WL_is (X_gtr_t rfl rfl rfl (by omega)) rfl rfl rfl ?_
      (repeat (first | refine WL_nil ?_ | refine Then_normal ?_ | refine W_seq ?_ | refine W_true rfl ?_))
      skip
      refine W_region rfl ?_
      refine WL_is (X_build rfl rfl rfl) rfl rfl rfl ?_
      refine WL_store rfl rfl rfl (by exact idx0) rfl rfl rfl rfl rfl rfl rfl rfl rfl ?_
      refine WL_is (X_assign rfl rfl) rfl rfl rfl ?_
      (repeat (first | refine WL_nil ?_ | refine Then_normal ?_ | refine W_ret ?_ | refine Then_ret ?_))
      refine Body_vals (.cons (.cellA rfl idx0 rfl rfl rfl) (.cons (.tmp rfl) .nil)) rfl ?_
      exact UpdE.of (Upd.sub (SubR.none _)) ⟨SplitA.bad hE (by decide), rfl⟩
    · by_cases hn : (0 : UInt8) ∈ l
      · have hE : splitE l = 622 := by unfold splitE; rw [if_neg h0, if_neg (by omega), if_pos hn]
        rw [decide_eq_true hn] at c0
        (repeat (first | refine W_seq ?_))
        skip
        refine W_region rfl ?_
        (refine WL_alloc rfl rfl rfl rfl rfl rfl ?_; intro b_)
        refine WL_is (X_assign rfl rfl) rfl rfl rfl ?_
        (repeat (first | refine WL_nil ?_ | refine Then_normal ?_ | refine W_seq ?_))
        skip
        refine W_region rfl ?_
        refine WL_is (X_move rfl rfl) rfl rfl rfl ?_
        refine WL_is (X_eqS_c rfl rfl rfl (by assumption)) rfl rfl rfl ?_
        (repeat (first | refine WL_nil ?_ | refine Then_normal ?_ | refine W_seq ?_ | refine W_skip ?_ | refine W_false rfl ?_))
        skip
        refine W_region rfl ?_
        refine WL_is (X_move rfl rfl) rfl rfl rfl ?_
        refine WL_is (X_len_str rfl rfl rfl) rfl rfl rfl ?_
        refine WL_is (X_gtr_f rfl rfl rfl (by omega)) rfl rfl rfl ?_
        (repeat (first | refine WL_nil ?_ | refine Then_normal ?_ | refine W_seq ?_ | refine W_skip ?_ | refine W_false rfl ?_))
        skip
        refine W_region rfl ?_
        refine WL_is (X_move rfl rfl) rfl rfl rfl ?_
        refine WL_is (X_callv rfl rfl rfl Try.func21 rfl (by assumption)) rfl rfl rfl ?_
        (repeat (first | refine WL_nil ?_ | refine Then_normal ?_ | refine W_seq ?_ | refine W_true rfl ?_))
        skip
        refine W_region rfl ?_
        refine WL_is (X_build rfl rfl rfl) rfl rfl rfl ?_
        refine WL_store rfl rfl rfl (by exact idx0) rfl rfl rfl rfl rfl rfl rfl rfl rfl ?_
        refine WL_is (X_assign rfl rfl) rfl rfl rfl ?_
        (repeat (first | refine WL_nil ?_ | refine Then_normal ?_ | refine W_ret ?_ | refine Then_ret ?_))
        refine Body_vals (.cons (.cellA rfl idx0 rfl rfl rfl) (.cons (.tmp rfl) .nil)) rfl ?_
        exact UpdE.of (Upd.sub (SubR.none _)) ⟨SplitA.bad hE (by decide), rfl⟩
      · have hE : splitE l = if (partsL l).any bigB = true then 636 else 0 := by unfold splitE; rw [if_neg h0, if_neg (by omega), if_neg hn]
        rw [decide_eq_false hn] at c0
        have hpl := parts_len l []
        change (partsL l).length ≤ l.length + 1 at hpl
        obtain ⟨ps, hps⟩ : ∃ ps, ps = partsL l := ⟨_, rfl⟩
        have pr := parts_ref h l hl
        have hgood : ∀ {h : PH} {x : Value}, splitE l = 0 → Sl encP 1 h x (partsL l) → SplitA l (.tuple #[pthV ⟨headB l, dirB l, partsL l⟩ x, .int .i64 0]) h := fun a b => SplitA.good a b
        unfold dirB at hgood
        rw [← hps] at hE hpl pr hgood
        have hl0 : 0 < l.length := by cases l with | nil => exact absurd rfl h0 | cons => simp
        (repeat (first | refine W_seq ?_))
        refine W_region rfl ?_
        (refine WL_alloc rfl rfl rfl rfl rfl rfl ?_; intro b_)
        generalize b_ = rb
        refine WL_is (X_assign rfl rfl) rfl rfl rfl ?_
        (repeat (first | refine WL_nil ?_ | refine Then_normal ?_ | refine W_seq ?_))
        skip
        refine W_region rfl ?_
        refine WL_is (X_move rfl rfl) rfl rfl rfl ?_
        refine WL_is (X_eqS_c rfl rfl rfl (by assumption)) rfl rfl rfl ?_
        (repeat (first | refine WL_nil ?_ | refine Then_normal ?_ | refine W_seq ?_ | refine W_skip ?_ | refine W_false rfl ?_))
        skip
        refine W_region rfl ?_
        refine WL_is (X_move rfl rfl) rfl rfl rfl ?_
        refine WL_is (X_len_str rfl rfl rfl) rfl rfl rfl ?_
        refine WL_is (X_gtr_f rfl rfl rfl (by omega)) rfl rfl rfl ?_
        (repeat (first | refine WL_nil ?_ | refine Then_normal ?_ | refine W_seq ?_ | refine W_skip ?_ | refine W_false rfl ?_))
        skip
        refine W_region rfl ?_
        refine WL_is (X_move rfl rfl) rfl rfl rfl ?_
        refine WL_is (X_callv rfl rfl rfl Try.func21 rfl (by assumption)) rfl rfl rfl ?_
        (repeat (first | refine WL_nil ?_ | refine Then_normal ?_ | refine W_seq ?_ | refine W_skip ?_ | refine W_false rfl ?_))
        skip
        refine W_region rfl ?_
        refine WL_is (X_move rfl rfl) rfl rfl rfl ?_
        refine WL_call rfl rfl rfl Try.func27 rfl rfl rfl rfl pr ?_
        rintro w1 _ H1 M1 ⟨s1, rfl⟩
        obtain ⟨a, c, rfl⟩ := s1.shape
        simp only [List.nil_append]
        refine WL_is (X_assign rfl rfl) rfl rfl rfl ?_
        (repeat (first | refine WL_nil ?_ | refine Then_normal ?_ | refine W_seq ?_))
        skip
        refine W_region rfl ?_
        refine WL_is (X_assign rfl rfl) rfl rfl rfl ?_
        (repeat (first | refine WL_nil ?_ | refine Then_normal ?_ | refine W_block ?_))
        refine W_loop (X := Nat) (L := fun j => ⟨[(5, .int .i64 (j : Int)), (4, .slice a ps.length c), (0, .string (mkB l)), (2, .pointer (some ⟨rb, 0, none⟩))], [], [blk rb (pthC pth0 (.slice none 0 0)) 29], H1⟩) (p := fun j => j ≤ ps.length ∧ (ps.take j).any bigB = false) (μ := fun j => ps.length - j) 0 ⟨(by repeat (first | exact SubE_nil | refine SubE_cons rfl ?_)), rfl, SubR.refl _, rfl⟩ ⟨Nat.zero_le _, rfl⟩ ?_
        rintro j ⟨hj, hno⟩
        by_cases hlt : j < ps.length
        · have htk := anyB_take hlt
          rw [hno, Bool.false_or] at htk
          have hjs := mkB_size ps[j]
          by_cases hb : ((mkB ps[j]).size : Int) > 16
          · have hbb : bigB ps[j] = true := decide_eq_true (by omega)
            rw [hbb] at htk
            rw [if_pos (anyB_of_take htk)] at hE
            (repeat (first | refine W_seq ?_))
            refine W_region rfl ?_
            refine WL_is (X_move rfl rfl) rfl rfl rfl ?_
            refine WL_is (X_move rfl rfl) rfl rfl rfl ?_
            refine WL_is (X_len_sl rfl rfl rfl (by assumption)) rfl rfl rfl ?_
            refine WL_is (X_lss_t rfl rfl rfl (by omega)) rfl rfl rfl ?_
            (repeat (first | refine WL_nil ?_ | refine Then_normal ?_ | refine W_seq ?_ | refine W_skip ?_ | refine W_block ?_ | refine W_true rfl ?_))
            skip
            refine W_region rfl ?_
            refine WL_is (X_move rfl rfl) rfl rfl rfl ?_
            refine WL_is (X_move rfl rfl) rfl rfl rfl ?_
            (refine WL_index_slN rfl rfl rfl rfl rfl (by assumption) (by omega) rfl rfl rfl ?_; intro p_ hp_)
            refine WL_is (X_load1_at rfl rfl (by assumption) rfl rfl) rfl rfl rfl ?_
            refine WL_is (X_len_str rfl rfl rfl) rfl rfl rfl ?_
            refine WL_is (X_gtr_t rfl rfl rfl (by omega)) rfl rfl rfl ?_
            (repeat (first | refine WL_nil ?_ | refine Then_normal ?_ | refine W_seq ?_ | refine W_true rfl ?_))
            skip
            refine W_region rfl ?_
            refine WL_is (X_build rfl rfl rfl) rfl rfl rfl ?_
            refine WL_store rfl rfl rfl (by exact idx0) rfl rfl rfl rfl rfl rfl rfl rfl rfl ?_
            refine WL_is (X_assign rfl rfl) rfl rfl rfl ?_
            (repeat (first | refine WL_nil ?_ | refine Then_normal ?_ | refine W_ret ?_ | refine Then_ret ?_ | refine inBlk_ret ?_))
            refine Body_vals (.cons (.cellA rfl idx0 rfl rfl rfl) (.cons (.tmp rfl) .nil)) rfl ?_
            exact UpdE.of (Upd.sub (SubR.none _)) ⟨SplitA.bad hE (by decide), rfl⟩
          · have hbb : bigB ps[j] = false := decide_eq_false (by omega)
            (repeat (first | refine W_seq ?_))
            refine W_region rfl ?_
            refine WL_is (X_move rfl rfl) rfl rfl rfl ?_
            refine WL_is (X_move rfl rfl) rfl rfl rfl ?_
            refine WL_is (X_len_sl rfl rfl rfl (by assumption)) rfl rfl rfl ?_
            refine WL_is (X_lss_t rfl rfl rfl (by omega)) rfl rfl rfl ?_
            (repeat (first | refine WL_nil ?_ | refine Then_normal ?_ | refine W_seq ?_ | refine W_skip ?_ | refine W_block ?_ | refine W_true rfl ?_))
            skip
            refine W_region rfl ?_
            refine WL_is (X_move rfl rfl) rfl rfl rfl ?_
            refine WL_is (X_move rfl rfl) rfl rfl rfl ?_
            (refine WL_index_slN rfl rfl rfl rfl rfl (by assumption) (by omega) rfl rfl rfl ?_; intro p_ hp_)
            refine WL_is (X_load1_at rfl rfl (by assumption) rfl rfl) rfl rfl rfl ?_
            refine WL_is (X_len_str rfl rfl rfl) rfl rfl rfl ?_
            refine WL_is (X_gtr_f rfl rfl rfl (by omega)) rfl rfl rfl ?_
            (repeat (first | refine WL_nil ?_ | refine Then_normal ?_ | refine W_skip ?_ | refine inBlk_normal ?_ | refine W_false rfl ?_))
            skip
            refine W_region rfl ?_
            refine WL_is (X_move rfl rfl) rfl rfl rfl ?_
            refine WL_is (X_addW rfl rfl rfl (by exact wrap_i64_in (by omega) (by omega))) rfl rfl rfl ?_
            refine WL_is (X_assign rfl rfl) rfl rfl rfl ?_
            (repeat (first | refine WL_nil ?_ | refine Then_normal ?_))
            exact ⟨j + 1, ⟨(by repeat (first | exact SubE_nil | refine SubE_cons rfl ?_)), rfl, SubR.refl _, rfl⟩, ⟨by omega, by rw [htk, hbb]⟩, by omega⟩
        · rw [List.take_of_length_le (by omega)] at hno
          rw [hno, if_neg (by decide)] at hE
          have hw1 : ((mkB l).size : Int) - 1 = ((l.length - 1 : Nat) : Int) := by omega
          have hcl : (mkB l).data.toList[(((mkB l).size : Int) - 1).toNat]? = some l[l.length - 1] := by rw [mkB_list, hw1]; simp
          have hc0 : (mkB l).data.toList[Int.toNat 0]? = some l[0] := by rw [mkB_list]; simp
          have hbl := byte_eq (c := l[l.length - 1]) (d := 47)
          have hb0 := byte_eq (c := l[0]) (d := 47)
          have hh := headB_at hl0
          have hla := lastB_at hl0
          have fin : ∀ (x y : Bool), x = headB l → y = (lastB l || decide (ps = []) || dotsB (ps.getLastD [])) → UpdE [blk rb (pthC ⟨x, y, ps⟩ (.slice a ps.length c)) 29] H1 (fun R' h' => SplitA l (.tuple #[.agg #[.bool x, .bool y, .slice a ps.length c], .int .i64 0]) h' ∧ R' = []) := fun x y hx hy => by
            subst hx; subst hy
            exact UpdE.of (Upd.sub (SubR.none _)) ⟨hgood hE s1, rfl⟩
          have hx0 : decide (((l[0]).toNat : Int) = 47) = headB l := by rw [hh]; exact decide_eq_decide.2 hb0
          by_cases h47 : l[l.length - 1] = 47
          · have h47i : ((l[l.length - 1]).toNat : Int) = 47 := hbl.2 h47
            rw [decide_eq_true h47] at hla
            (repeat (first | refine W_seq ?_))
            refine W_region rfl ?_
            refine WL_is (X_move rfl rfl) rfl rfl rfl ?_
            refine WL_is (X_move rfl rfl) rfl rfl rfl ?_
            refine WL_is (X_len_sl rfl rfl rfl (by assumption)) rfl rfl rfl ?_
            refine WL_is (X_lss_f rfl rfl rfl (by omega)) rfl rfl rfl ?_
            (repeat (first | refine WL_nil ?_ | refine Then_normal ?_ | refine W_seq ?_ | refine W_exit ?_ | refine Then_exit ?_ | refine inBlk_here ?_ | refine W_false rfl ?_))
            skip
            refine W_region rfl ?_
            refine WL_is (X_move rfl rfl) rfl rfl rfl ?_
            refine WL_is (X_move rfl rfl) rfl rfl rfl ?_
            refine WL_is (X_len_str rfl rfl rfl) rfl rfl rfl ?_
            refine WL_is (X_subW rfl rfl rfl (by exact wrap_i64_in (by omega) (by omega))) rfl rfl rfl ?_
            refine WL_is (X_index_str rfl rfl rfl rfl (by omega) (by assumption)) rfl rfl rfl ?_
            refine WL_is (X_eql_t rfl rfl rfl (by omega)) rfl rfl rfl ?_
            refine WL_is (X_move rfl rfl) rfl rfl rfl ?_
            refine WL_off rfl rfl rfl ?_
            refine WL_off rfl rfl rfl ?_
            refine WL_off rfl rfl rfl ?_
            refine WL_is (X_pick_t rfl rfl rfl) rfl rfl rfl ?_
            refine WL_is (X_move rfl rfl) rfl rfl rfl ?_
            refine WL_off rfl rfl rfl ?_
            refine WL_off rfl rfl rfl ?_
            refine WL_off rfl rfl rfl ?_
            refine WL_off rfl rfl rfl ?_
            refine WL_off rfl rfl rfl ?_
            refine WL_off rfl rfl rfl ?_
            refine WL_off rfl rfl rfl ?_
            refine WL_is (X_pick_t rfl rfl rfl) rfl rfl rfl ?_
            refine WL_is (X_assign rfl rfl) rfl rfl rfl ?_
            (repeat (first | refine WL_nil ?_ | refine Then_normal ?_ | refine W_seq ?_))
            skip
            refine W_region rfl ?_
            refine WL_is (X_move rfl rfl) rfl rfl rfl ?_
            refine WL_is (X_index_str rfl rfl rfl rfl (by omega) (by assumption)) rfl rfl rfl ?_
            refine WL_is (X_eql rfl rfl rfl) rfl rfl rfl ?_
            refine WL_is (X_move rfl rfl) rfl rfl rfl ?_
            refine WL_is (X_move rfl rfl) rfl rfl rfl ?_
            refine WL_is (X_build rfl rfl rfl) rfl rfl rfl ?_
            refine WL_store rfl rfl rfl (by exact idx0) rfl rfl rfl rfl rfl rfl rfl rfl rfl ?_
            refine WL_is (X_assign rfl rfl) rfl rfl rfl ?_
            (repeat (first | refine WL_nil ?_ | refine Then_normal ?_ | refine W_ret ?_))
            refine Body_vals (.cons (.cellA rfl idx0 rfl rfl rfl) (.cons (.tmp rfl) .nil)) rfl ?_
            exact fin _ _ hx0 (by rw [hla]; rfl)
          · have h47i : ¬ ((l[l.length - 1]).toNat : Int) = 47 := fun e => h47 (hbl.1 e)
            rw [decide_eq_false h47] at hla
            by_cases hz : ps.length = 0
            · have hzi : (ps.length : Int) = 0 := by omega
              have hnil : ps = [] := List.eq_nil_of_length_eq_zero hz
              (repeat (first | refine W_seq ?_))
              refine W_region rfl ?_
              refine WL_is (X_move rfl rfl) rfl rfl rfl ?_
              refine WL_is (X_move rfl rfl) rfl rfl rfl ?_
              refine WL_is (X_len_sl rfl rfl rfl (by assumption)) rfl rfl rfl ?_
              refine WL_is (X_lss_f rfl rfl rfl (by omega)) rfl rfl rfl ?_
              (repeat (first | refine WL_nil ?_ | refine Then_normal ?_ | refine W_seq ?_ | refine W_exit ?_ | refine Then_exit ?_ | refine inBlk_here ?_ | refine W_false rfl ?_))
              skip
              refine W_region rfl ?_
              refine WL_is (X_move rfl rfl) rfl rfl rfl ?_
              refine WL_is (X_move rfl rfl) rfl rfl rfl ?_
              refine WL_is (X_len_str rfl rfl rfl) rfl rfl rfl ?_
              refine WL_is (X_subW rfl rfl rfl (by exact wrap_i64_in (by omega) (by omega))) rfl rfl rfl ?_
              refine WL_is (X_index_str rfl rfl rfl rfl (by omega) (by assumption)) rfl rfl rfl ?_
              refine WL_is (X_eql_f rfl rfl rfl (by omega)) rfl rfl rfl ?_
              refine WL_is (X_move rfl rfl) rfl rfl rfl ?_
              refine WL_is (X_move rfl rfl) rfl rfl rfl ?_
              refine WL_is (X_len_sl rfl rfl rfl (by assumption)) rfl rfl rfl ?_
              refine WL_is (X_eql_t rfl rfl rfl (by omega)) rfl rfl rfl ?_
              refine WL_is (X_pick_f rfl rfl rfl) rfl rfl rfl ?_
              refine WL_is (X_move rfl rfl) rfl rfl rfl ?_
              refine WL_off rfl rfl rfl ?_
              refine WL_off rfl rfl rfl ?_
              refine WL_off rfl rfl rfl ?_
              refine WL_off rfl rfl rfl ?_
              refine WL_off rfl rfl rfl ?_
              refine WL_off rfl rfl rfl ?_
              refine WL_off rfl rfl rfl ?_
              refine WL_is (X_pick_t rfl rfl rfl) rfl rfl rfl ?_
              refine WL_is (X_assign rfl rfl) rfl rfl rfl ?_
              (repeat (first | refine WL_nil ?_ | refine Then_normal ?_ | refine W_seq ?_))
              skip
              refine W_region rfl ?_
              refine WL_is (X_move rfl rfl) rfl rfl rfl ?_
              refine WL_is (X_index_str rfl rfl rfl rfl (by omega) (by assumption)) rfl rfl rfl ?_
              refine WL_is (X_eql rfl rfl rfl) rfl rfl rfl ?_
              refine WL_is (X_move rfl rfl) rfl rfl rfl ?_
              refine WL_is (X_move rfl rfl) rfl rfl rfl ?_
              refine WL_is (X_build rfl rfl rfl) rfl rfl rfl ?_
              refine WL_store rfl rfl rfl (by exact idx0) rfl rfl rfl rfl rfl rfl rfl rfl rfl ?_
              refine WL_is (X_assign rfl rfl) rfl rfl rfl ?_
              (repeat (first | refine WL_nil ?_ | refine Then_normal ?_ | refine W_ret ?_))
              refine Body_vals (.cons (.cellA rfl idx0 rfl rfl rfl) (.cons (.tmp rfl) .nil)) rfl ?_
              exact fin _ _ hx0 (by rw [hla, decide_eq_true hnil]; rfl)
            · have hzi : ¬ (ps.length : Int) = 0 := by omega
              have hnil : ¬ ps = [] := fun e => hz (by rw [e]; rfl)
              have hd := dots_ref H1 (ps[((ps.length : Int) - 1).toNat]'(by omega))
              have hlt := last_at (ps := ps) (by omega)
              (repeat (first | refine W_seq ?_))
              refine W_region rfl ?_
              refine WL_is (X_move rfl rfl) rfl rfl rfl ?_
              refine WL_is (X_move rfl rfl) rfl rfl rfl ?_
              refine WL_is (X_len_sl rfl rfl rfl (by assumption)) rfl rfl rfl ?_
              refine WL_is (X_lss_f rfl rfl rfl (by omega)) rfl rfl rfl ?_
              (repeat (first | refine WL_nil ?_ | refine Then_normal ?_ | refine W_seq ?_ | refine W_exit ?_ | refine Then_exit ?_ | refine inBlk_here ?_ | refine W_false rfl ?_))
              skip
              refine W_region rfl ?_
              refine WL_is (X_move rfl rfl) rfl rfl rfl ?_
              refine WL_is (X_move rfl rfl) rfl rfl rfl ?_
              refine WL_is (X_len_str rfl rfl rfl) rfl rfl rfl ?_
              refine WL_is (X_subW rfl rfl rfl (by exact wrap_i64_in (by omega) (by omega))) rfl rfl rfl ?_
              refine WL_is (X_index_str rfl rfl rfl rfl (by omega) (by assumption)) rfl rfl rfl ?_
              refine WL_is (X_eql_f rfl rfl rfl (by omega)) rfl rfl rfl ?_
              refine WL_is (X_move rfl rfl) rfl rfl rfl ?_
              refine WL_is (X_move rfl rfl) rfl rfl rfl ?_
              refine WL_is (X_len_sl rfl rfl rfl (by assumption)) rfl rfl rfl ?_
              refine WL_is (X_eql_f rfl rfl rfl (by omega)) rfl rfl rfl ?_
              refine WL_is (X_pick_f rfl rfl rfl) rfl rfl rfl ?_
              refine WL_is (X_move rfl rfl) rfl rfl rfl ?_
              refine WL_is (X_move rfl rfl) rfl rfl rfl ?_
              refine WL_is (X_move rfl rfl) rfl rfl rfl ?_
              refine WL_is (X_len_sl rfl rfl rfl (by assumption)) rfl rfl rfl ?_
              refine WL_is (X_subW rfl rfl rfl (by exact wrap_i64_in (by omega) (by omega))) rfl rfl rfl ?_
              (refine WL_index_sl rfl rfl rfl rfl rfl (by assumption) (by omega) (by omega) rfl rfl rfl ?_; intro p_ hp_)
              refine WL_is (X_load1_at rfl rfl (by assumption) rfl rfl) rfl rfl rfl ?_
              refine WL_is (X_callv rfl rfl rfl Try.func12 rfl (by assumption)) rfl rfl rfl ?_
              refine WL_is (X_pick_f rfl rfl rfl) rfl rfl rfl ?_
              refine WL_is (X_assign rfl rfl) rfl rfl rfl ?_
              (repeat (first | refine WL_nil ?_ | refine Then_normal ?_ | refine W_seq ?_))
              skip
              refine W_region rfl ?_
              refine WL_is (X_move rfl rfl) rfl rfl rfl ?_
              refine WL_is (X_index_str rfl rfl rfl rfl (by omega) (by assumption)) rfl rfl rfl ?_
              refine WL_is (X_eql rfl rfl rfl) rfl rfl rfl ?_
              refine WL_is (X_move rfl rfl) rfl rfl rfl ?_
              refine WL_is (X_move rfl rfl) rfl rfl rfl ?_
              refine WL_is (X_build rfl rfl rfl) rfl rfl rfl ?_
              refine WL_store rfl rfl rfl (by exact idx0) rfl rfl rfl rfl rfl rfl rfl rfl rfl ?_
              refine WL_is (X_assign rfl rfl) rfl rfl rfl ?_
              (repeat (first | refine WL_nil ?_ | refine Then_normal ?_ | refine W_ret ?_))
              refine Body_vals (.cons (.cellA rfl idx0 rfl rfl rfl) (.cons (.tmp rfl) .nil)) rfl ?_
              exact fin _ _ hx0 (by rw [hla, decide_eq_false hnil, hlt]; rfl)
end Go.Proofs.Ythcolbdlalpcjaa
