/- Directories: their slots handed on. -/
import Derived.Test.YtgpanbmjmpondaaDirB
namespace Go.Proofs.Ytgpanbmjmpondaa
set_option maxRecDepth 4000
open Go Go.Par PH
structure OX where
  c : Nat
  j : Nat
  m : Bool
  h : PH
structure IS where
  s : Nat
  j : Nat
  h : PH
structure MX where
  k : Nat
  j : Nat
  h : PH
def argS (d : Dr) (i : Nat) : List Value := match (slotsL d)[i]? with | some e => [spoV e.1, sloV e.2] | none => [.bool false, .bool false]
attribute [local irreducible] W WL Does Exec Body Then inBlk RG WR row obj pblk
set_option maxHeartbeats 2000000 in
theorem slots_iter (h : PH) (p x0 x1 x2 x3 : Value) (d : Dr) (hp : At h p [x0, x1, x2, x3]) (h0 : Sl encChu 31 h x0 d.b0) (h1 : Sl encChu 31 h x1 d.b1) (h2 : Sl encChu 31 h x2 d.b2) (h3 : Sl encChu 31 h x3 d.b3) (hb : maxR d ≤ 1000000) :
    Iter Try.prog 41 [p] [] (slotsL d).length (argS d) h := by
  intro lp T Tx hY
  have hrow : ∀ k, k < 4 → ∃ xk, [x0, x1, x2, x3][k]? = some xk ∧ Sl encChu 31 h xk (d.row k) := fun k hk => by
    match k, hk with
    | 0, _ => exact ⟨x0, rfl, h0⟩
    | 1, _ => exact ⟨x1, rfl, h1⟩
    | 2, _ => exact ⟨x2, rfl, h2⟩
    | 3, _ => exact ⟨x3, rfl, h3⟩
  refine Does_of_W Try.func41 rfl (n := 41) rfl rfl (by simp only [argE, Nat.reduceAdd] <;> rfl) ?_
  (repeat (first | refine W_seq ?_))
  skip
  refine W_region rfl ?_
  refine WL_is (X_assign rfl rfl) rfl rfl rfl ?_
  refine WL_is (X_assign rfl rfl) rfl rfl rfl ?_
  (repeat (first | refine WL_nil ?_ | refine Then_normal ?_ | refine W_block ?_))
  refine W_loop (X := OX) (L := fun x => ⟨[(3, .int .i64 (x.c : Int)), (4, .bool x.m), (0, .func (.yield lp) #[] #[]), (1, p)], [], [T x.j], x.h⟩) (p := fun x => x.j ≤ (slotsL d).length ∧ restF d x.c = (slotsL d).drop x.j ∧ (x.m = false → maxR d ≤ x.c) ∧ (x.m = true → x.c ≤ maxR d) ∧ x.c ≤ maxR d + 1 ∧ le h x.h) (μ := fun x => maxR d + 2 - x.c) ⟨0, 0, true, h⟩ ⟨(by repeat (first | exact SubE_nil | refine SubE_cons rfl ?_)), rfl, SubR.refl _, rfl⟩ ⟨Nat.zero_le _, rfl, (fun e => by cases e), (fun _ => Nat.zero_le _), Nat.zero_le _, le.refl _⟩ ?_
  rintro ⟨c, j, m, g1⟩ ⟨hj, hr, hm0, hm1, hc, hle⟩
  dsimp only at hj hr hm0 hm1 hc hle ⊢
  cases m with
  | false =>
    have hN : j = (slotsL d).length := by
      rw [restF_end (hm0 rfl)] at hr
      have := congrArg List.length hr
      simp at this; omega
    subst hN
    (repeat (first | refine W_seq ?_))
    refine W_region rfl ?_
    refine WL_is (X_move rfl rfl) rfl rfl rfl ?_
    (repeat (first | refine WL_nil ?_ | refine Then_normal ?_ | refine W_exit ?_ | refine Then_exit ?_ | refine inBlk_here ?_ | refine W_false rfl ?_))
    exact Body_end0 rfl rfl rfl (SubR.refl _) (.inl ⟨[], rfl⟩)
  | true =>
    have hcm := hm1 rfl
    have hp1 := hp.mono hle
    rw [restF_step] at hr
    (repeat (first | refine W_seq ?_))
    refine W_region rfl ?_
    refine WL_is (X_move rfl rfl) rfl rfl rfl ?_
    (repeat (first | refine WL_nil ?_ | refine Then_normal ?_ | refine W_seq ?_ | refine W_skip ?_ | refine W_block ?_ | refine W_true rfl ?_))
    skip
    refine W_region rfl ?_
    refine WL_is (X_assign rfl rfl) rfl rfl rfl ?_
    (repeat (first | refine WL_nil ?_ | refine Then_normal ?_ | refine W_seq ?_))
    skip
    refine W_region rfl ?_
    (refine WL_fieldAddr_at rfl rfl (by assumption) rfl rfl rfl rfl ?_; intro p_ hp_)
    refine WL_is (X_loadA_at rfl rfl (by assumption) rfl rfl rfl) rfl rfl rfl ?_
    refine WL_is (X_move rfl rfl) rfl rfl rfl ?_
    (repeat (first | refine WL_nil ?_ | refine Then_normal ?_ | refine W_block ?_))
    refine W_loop (X := MX) (L := fun y => ⟨[(14, .int .i64 (y.k : Int)), (13, .agg #[x0, x1, x2, x3]), (3, .int .i64 (c : Int)), (4, .bool (moreB d c y.k)), (0, .func (.yield lp) #[] #[]), (1, p)], [], [T y.j], y.h⟩) (p := fun y => y.k ≤ 4 ∧ y.j ≤ (slotsL d).length ∧ lineF d c y.k ++ restF d (c + 1) = (slotsL d).drop y.j ∧ le g1 y.h) (μ := fun y => 4 - y.k) ⟨0, j, g1⟩ ⟨(by repeat (first | exact SubE_nil | refine SubE_cons rfl ?_)), rfl, SubR.refl _, rfl⟩ ⟨Nat.zero_le _, hj, hr, le.refl _⟩ ?_
    rintro ⟨k, j2, g2⟩ ⟨hk, hj2, hr2, hle2⟩
    dsimp only at hk hj2 hr2 hle2 ⊢
    by_cases hk4 : k < 4
    · obtain ⟨xk, hxk, hsk⟩ := hrow k hk4
      have hsk := hsk.mono (hle.trans hle2)
      obtain ⟨xa, xc, rfl⟩ := hsk.shape
      have hms := moreB_succ d c hk4
      rw [lineF_step d c hk4] at hr2
      (repeat (first | refine W_seq ?_))
      refine W_region rfl ?_
      refine WL_is (X_lss_t rfl rfl rfl (by omega)) rfl rfl rfl ?_
      (repeat (first | refine WL_nil ?_ | refine Then_normal ?_ | refine W_seq ?_ | refine W_skip ?_ | refine W_block ?_ | refine W_true rfl ?_))
      skip
      refine W_region rfl ?_
      refine WL_is (X_move rfl rfl) rfl rfl rfl ?_
      refine WL_is (X_index_valS (sz := 1) (q := k) (cs := [x0, x1, x2, x3]) rfl rfl rfl rfl rfl rfl (by omega) (by omega) (by simp) hxk) rfl rfl rfl ?_
      refine WL_is (X_assign rfl rfl) rfl rfl rfl ?_
      refine WL_is (X_assign rfl rfl) rfl rfl rfl ?_
      (repeat (first | refine WL_nil ?_ | refine Then_normal ?_ | refine W_seq ?_))
      by_cases hcl : c < (d.row k).length
      · have hci : ¬ (c : Int) ≥ ((d.row k).length : Int) := by omega
        rw [decide_eq_true hcl, Bool.or_true] at hms
        obtain ⟨s0, s1, s2, s3, s4, s5, s6, s7, s8, s9, hsl⟩ := chu_ten (hsk.1 _ (List.getElem_mem hcl))
        rw [cellK_some hcl] at hr2
        obtain ⟨bk, hbk⟩ : ∃ bk, (d.row k)[c].blk = bk := ⟨_, rfl⟩
        have hen : encChu (d.row k)[c] = .int .i64 bk :: [s0, s1, s2, s3, s4, s5, s6, s7, s8, s9].flatMap encSlo := by unfold encChu; rw [hsl, hbk]
        skip
        refine W_region rfl ?_
        refine WL_is (X_move rfl rfl) rfl rfl rfl ?_
        refine WL_is (X_move rfl rfl) rfl rfl rfl ?_
        refine WL_is (X_len_sl rfl rfl rfl (by assumption)) rfl rfl rfl ?_
        refine WL_is (X_geq_f rfl rfl rfl (by omega)) rfl rfl rfl ?_
        (repeat (first | refine WL_nil ?_ | refine Then_normal ?_ | refine W_seq ?_ | refine W_skip ?_ | refine W_false rfl ?_))
        skip
        refine W_region rfl ?_
        refine WL_is (X_assign rfl rfl) rfl rfl rfl ?_
        (repeat (first | refine WL_nil ?_ | refine Then_normal ?_ | refine W_seq ?_))
        skip
        refine W_region rfl ?_
        refine WL_is (X_move rfl rfl) rfl rfl rfl ?_
        refine WL_is (X_move rfl rfl) rfl rfl rfl ?_
        (refine WL_index_slN rfl rfl rfl rfl rfl (by assumption) (by omega) rfl rfl rfl ?_; intro p_ hp_)
        rw [hen] at hp_
        (refine WL_fieldAddr_at rfl rfl (by assumption) rfl rfl rfl rfl ?_; intro p_ hp_)
        refine WL_is (X_loadA_at rfl rfl (by assumption) rfl rfl rfl) rfl rfl rfl ?_
        refine WL_is (X_move rfl rfl) rfl rfl rfl ?_
        (repeat (first | refine WL_nil ?_ | refine Then_normal ?_ | refine W_block ?_))
        obtain ⟨sl, hsl2⟩ : ∃ sl, sl = [s0, s1, s2, s3, s4, s5, s6, s7, s8, s9] := ⟨_, rfl⟩
        have hl10 : sl.length = 10 := by rw [hsl2]; rfl
        refine W_loop (X := IS) (L := fun y => ⟨[(27, .int .i64 (y.s : Int)), (26, .agg (sl.flatMap encSlo).toArray), (14, .int .i64 (k : Int)), (13, .agg #[x0, x1, x2, x3]), (3, .int .i64 (c : Int)), (4, .bool true), (5, .int .i64 (k : Int)), (0, .func (.yield lp) #[] #[]), (1, p)], [], [T y.j], y.h⟩) (p := fun y => y.s ≤ 10 ∧ y.j ≤ (slotsL d).length ∧ itemsS k c (d.row k)[c] y.s ++ (lineF d c (k + 1) ++ restF d (c + 1)) = (slotsL d).drop y.j ∧ le g2 y.h) (μ := fun y => 10 - y.s) ⟨0, j2, g2⟩ ⟨by subst hsl2; exact (by repeat (first | exact SubE_nil | refine SubE_cons rfl ?_)), rfl, SubR.refl _, rfl⟩ ⟨Nat.zero_le _, hj2, by rw [← hr2, List.append_assoc], le.refl _⟩ ?_
        rintro ⟨s, j3, g3⟩ ⟨hs, hj3, hr3, hle3⟩
        dsimp only at hs hj3 hr3 hle3 ⊢
        by_cases hs10 : s < 10
        · have ht3 := take3 sl s (by omega)
          rw [itemsS_step _ _ _ hs10, List.cons_append] at hr3
          (repeat (first | refine W_seq ?_))
          refine W_region rfl ?_
          refine WL_is (X_lss_t rfl rfl rfl (by omega)) rfl rfl rfl ?_
          (repeat (first | refine WL_nil ?_ | refine Then_normal ?_ | refine W_seq ?_ | refine W_skip ?_ | refine W_block ?_ | refine W_true rfl ?_))
          skip
          refine W_region rfl ?_
          refine WL_is (X_move rfl rfl) rfl rfl rfl ?_
          refine WL_is (X_index_valA (sz := 3) (vs := encSlo (sl[s]'(by omega))) rfl rfl rfl rfl rfl rfl (by omega) (by omega) rfl (by simpa using ht3)) rfl rfl rfl ?_
          have hjl : j3 < (slotsL d).length := by
            rcases Nat.lt_or_ge j3 (slotsL d).length with hh | hh
            · exact hh
            · rw [List.drop_eq_nil_of_le hh] at hr3; cases hr3
          rw [List.drop_eq_getElem_cons hjl] at hr3
          simp only [List.cons.injEq] at hr3
          obtain ⟨e1, e2⟩ := hr3
          have hgs : ((d.row k)[c].sl[s]?).getD slo0 = sl[s]'(by omega) := by
            rw [hsl, ← hsl2, List.getElem?_eq_getElem (by omega)]; rfl
          have harg : argS d j3 = [spoV ⟨(k : Int), (c : Int), (s : Int)⟩, sloV (sl[s]'(by omega))] := by
            unfold argS
            rw [List.getElem?_eq_getElem hjl, ← e1, hgs]
          have hya := hY j3 g3 hjl (hle.trans (hle2.trans hle3))
          rw [harg] at hya
          unfold spoV sloV at hya
          unfold encSlo
          (refine WL_alloc rfl rfl rfl rfl rfl rfl ?_; intro b_)
          refine WL_is (X_assign rfl rfl) rfl rfl rfl ?_
          refine WL_store rfl rfl rfl (by exact idx0) rfl rfl rfl rfl rfl rfl rfl rfl rfl ?_
          (repeat (first | refine WL_nil ?_ | refine Then_normal ?_ | refine W_seq ?_))
          skip
          refine W_region rfl ?_
          refine WL_is (X_move rfl rfl) rfl rfl rfl ?_
          refine WL_is (X_move rfl rfl) rfl rfl rfl ?_
          refine WL_is (X_move rfl rfl) rfl rfl rfl ?_
          refine WL_is (X_move rfl rfl) rfl rfl rfl ?_
          refine WL_is (X_build rfl rfl rfl) rfl rfl rfl ?_
          refine WL_is (X_loadA rfl rfl (by exact idx0) rfl rfl rfl) rfl rfl rfl ?_
          refine WL_yield [T j3] [_] rfl rfl rfl rfl rfl rfl (.swap _ _ _) hya ?_
          rintro v _ g4 hle4 (⟨rfl, rfl⟩ | ⟨rfl, rfl⟩)
          · simp only [List.cons_append, List.nil_append]
            refine WL_is (X_not rfl rfl) rfl rfl rfl ?_
            (repeat (first | refine WL_nil ?_ | refine Then_normal ?_ | refine W_skip ?_ | refine inBlk_normal ?_ | refine W_false rfl ?_))
            skip
            refine W_region rfl ?_
            refine WL_is (X_addW rfl rfl rfl (by exact wrap_i64_in (by omega) (by omega))) rfl rfl rfl ?_
            refine WL_is (X_move rfl rfl) rfl rfl rfl ?_
            (repeat (first | refine WL_nil ?_ | refine Then_normal ?_))
            exact ⟨⟨s + 1, j3 + 1, g4⟩, ⟨(by repeat (first | exact SubE_nil | refine SubE_cons rfl ?_)), rfl, .cons _ (SubR.none _), rfl⟩, ⟨by dsimp only; omega, hjl, e2, hle3.trans hle4⟩, by dsimp only; omega⟩
          · simp only [List.cons_append, List.nil_append]
            refine WL_is (X_not rfl rfl) rfl rfl rfl ?_
            (repeat (first | refine WL_nil ?_ | refine Then_normal ?_ | refine W_ret ?_ | refine Then_ret ?_ | refine inBlk_ret ?_ | refine W_true rfl ?_))
            exact Body_end rfl rfl rfl (SubR.refl _) (.inr ⟨j3, hjl, _, rfl⟩)
        · have hs11 : s = 10 := by omega
          subst hs11
          rw [itemsS_end, List.nil_append] at hr3
          (repeat (first | refine W_seq ?_))
          refine W_region rfl ?_
          refine WL_is (X_lss_f rfl rfl rfl (by omega)) rfl rfl rfl ?_
          (repeat (first | refine WL_nil ?_ | refine Then_normal ?_ | refine W_seq ?_ | refine W_exit ?_ | refine Then_exit ?_ | refine inBlk_normal ?_ | refine inBlk_here ?_ | refine W_false rfl ?_))
          skip
          refine W_region rfl ?_
          refine WL_is (X_addW rfl rfl rfl (by exact wrap_i64_in (by omega) (by omega))) rfl rfl rfl ?_
          refine WL_is (X_move rfl rfl) rfl rfl rfl ?_
          (repeat (first | refine WL_nil ?_ | refine Then_normal ?_))
          refine ⟨⟨k + 1, j3, g3⟩, ⟨?_, rfl, SubR.refl _, rfl⟩, ⟨by dsimp only; omega, hj3, hr3, hle2.trans hle3⟩, by dsimp only; omega⟩
          dsimp only
          rw [hms]
          exact (by repeat (first | exact SubE_nil | refine SubE_cons rfl ?_))
      · have hci : (c : Int) ≥ ((d.row k).length : Int) := by omega
        rw [decide_eq_false hcl, Bool.or_false] at hms
        rw [cellK_none (by omega), List.nil_append] at hr2
        skip
        refine W_region rfl ?_
        refine WL_is (X_move rfl rfl) rfl rfl rfl ?_
        refine WL_is (X_move rfl rfl) rfl rfl rfl ?_
        refine WL_is (X_len_sl rfl rfl rfl (by assumption)) rfl rfl rfl ?_
        refine WL_is (X_geq_t rfl rfl rfl (by omega)) rfl rfl rfl ?_
        (repeat (first | refine WL_nil ?_ | refine Then_normal ?_ | refine W_exit ?_ | refine Then_exit ?_ | refine inBlk_here ?_ | refine W_true rfl ?_))
        skip
        refine W_region rfl ?_
        refine WL_is (X_addW rfl rfl rfl (by exact wrap_i64_in (by omega) (by omega))) rfl rfl rfl ?_
        refine WL_is (X_move rfl rfl) rfl rfl rfl ?_
        (repeat (first | refine WL_nil ?_ | refine Then_normal ?_))
        refine ⟨⟨k + 1, j2, g2⟩, ⟨?_, rfl, SubR.refl _, rfl⟩, ⟨by dsimp only; omega, hj2, hr2, hle2⟩, by dsimp only; omega⟩
        dsimp only
        rw [hms]
        exact (by repeat (first | exact SubE_nil | refine SubE_cons rfl ?_))
    · have hk5 : k = 4 := by omega
      subst hk5
      rw [lineF_end, List.nil_append] at hr2
      (repeat (first | refine W_seq ?_))
      refine W_region rfl ?_
      refine WL_is (X_lss_f rfl rfl rfl (by omega)) rfl rfl rfl ?_
      (repeat (first | refine WL_nil ?_ | refine Then_normal ?_ | refine W_seq ?_ | refine W_exit ?_ | refine Then_exit ?_ | refine inBlk_normal ?_ | refine inBlk_here ?_ | refine W_false rfl ?_))
      skip
      refine W_region rfl ?_
      refine WL_is (X_move rfl rfl) rfl rfl rfl ?_
      refine WL_is (X_addW rfl rfl rfl (by exact wrap_i64_in (by omega) (by omega))) rfl rfl rfl ?_
      refine WL_is (X_assign rfl rfl) rfl rfl rfl ?_
      (repeat (first | refine WL_nil ?_ | refine Then_normal ?_))
      refine ⟨⟨c + 1, j2, moreB d c 4, g2⟩, ⟨(by repeat (first | exact SubE_nil | refine SubE_cons rfl ?_)), rfl, SubR.refl _, rfl⟩, ⟨hj2, hr2, (fun e => by have := moreB_no e; dsimp only; omega), moreB_yes, by dsimp only; omega, hle.trans hle2⟩, by dsimp only; omega⟩
end Go.Proofs.Ytgpanbmjmpondaa
