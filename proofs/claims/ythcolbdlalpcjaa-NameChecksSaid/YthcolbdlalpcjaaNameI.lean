/- Names and paths: strings built up by the library. -/
import Derived.Test.YthcolbdlalpcjaaNameH
namespace Go.Proofs.Ythcolbdlalpcjaa
set_option maxRecDepth 4000
open Go Go.Par PH
abbrev selfP (b : Nat) : Value := .pointer (some ⟨b, 0, none⟩)
theorem lies46 : liesAt Try.prog Try.prog.depth 46 (2 / Try.prog.cellsOf 46) 0 46 1 = true := by kernel_rfl
attribute [local irreducible] W WL Does Exec Body Then inBlk RG WR row obj pblk
set_option maxHeartbeats 400000 in
theorem cc_fn (h : PH) (b : Nat) (a v : Value) (ha : a = .pointer none ∨ a = selfP b) (hv : ∃ x m c, v = .slice x m c) : Does Try.prog 38 [selfP b] [blk b [a, v] 46] h (Ret fun _ R' _ => R' = [blk b [selfP b, v] 46]) := by
  obtain ⟨x, m, c, rfl⟩ := hv
  refine Does_of_W Try.func38 rfl (n := 20) rfl rfl (by simp only [argE] <;> rfl) ?_
  rcases ha with rfl | rfl
  · (repeat (first | refine W_seq ?_))
    skip
    refine W_region rfl ?_
    refine WL_is (X_move rfl rfl) rfl rfl rfl ?_
    refine WL_is (X_nilCheck rfl rfl) rfl rfl rfl ?_
    refine WL_is (X_fieldAddr rfl rfl rfl (by simp only [Nat.zero_add] <;> rfl)) rfl rfl rfl ?_
    refine WL_is (X_load1 rfl rfl (by exact idx0) rfl rfl) rfl rfl rfl ?_
    refine WL_is (X_eqPn_t rfl rfl rfl rfl) rfl rfl rfl ?_
    (repeat (first | refine WL_nil ?_ | refine Then_normal ?_ | refine W_true rfl ?_))
    skip
    refine W_region rfl ?_
    refine WL_is (X_move rfl rfl) rfl rfl rfl ?_
    refine WL_is (X_move rfl rfl) rfl rfl rfl ?_
    refine WL_is (X_toUnsafe rfl rfl rfl rfl rfl rfl idx0 rfl) rfl rfl rfl ?_
    refine WL_is (X_noEscape rfl rfl rfl Try.func43 (by kernel_rfl) (by kernel_rfl) (by kernel_rfl) (by kernel_rfl)) rfl rfl rfl ?_
    refine WL_is (X_fromUnsafe rfl rfl rfl rfl rfl idx0 lies46) rfl rfl rfl ?_
    refine WL_is (X_nilCheck rfl rfl) rfl rfl rfl ?_
    refine WL_is (X_fieldAddr rfl rfl rfl (by simp only [Nat.zero_add] <;> rfl)) rfl rfl rfl ?_
    refine WL_store rfl rfl rfl (by exact idx0) rfl rfl rfl rfl rfl rfl rfl rfl rfl ?_
    (repeat (first | refine WL_nil ?_))
    exact Body_end0 rfl rfl rfl (SubR.refl _) rfl
  · (repeat (first | refine W_seq ?_))
    skip
    refine W_region rfl ?_
    refine WL_is (X_move rfl rfl) rfl rfl rfl ?_
    refine WL_is (X_nilCheck rfl rfl) rfl rfl rfl ?_
    refine WL_is (X_fieldAddr rfl rfl rfl (by simp only [Nat.zero_add] <;> rfl)) rfl rfl rfl ?_
    refine WL_is (X_load1 rfl rfl (by exact idx0) rfl rfl) rfl rfl rfl ?_
    refine WL_is (X_eqPn_f rfl rfl rfl rfl) rfl rfl rfl ?_
    (repeat (first | refine WL_nil ?_ | refine Then_normal ?_ | refine W_seq ?_ | refine W_false rfl ?_))
    skip
    refine W_region rfl ?_
    refine WL_is (X_move rfl rfl) rfl rfl rfl ?_
    refine WL_is (X_nilCheck rfl rfl) rfl rfl rfl ?_
    refine WL_is (X_fieldAddr rfl rfl rfl (by simp only [Nat.zero_add] <;> rfl)) rfl rfl rfl ?_
    refine WL_is (X_load1 rfl rfl (by exact idx0) rfl rfl) rfl rfl rfl ?_
    refine WL_is (X_move rfl rfl) rfl rfl rfl ?_
    refine WL_is (X_nePPs rfl rfl rfl rfl rfl rfl) rfl rfl rfl ?_
    (repeat (first | refine WL_nil ?_ | refine Then_normal ?_ | refine W_skip ?_ | refine W_false rfl ?_))
    exact Body_end0 rfl rfl rfl (SubR.refl _) rfl
theorem ws_fn (h : PH) (b : Nat) (a v : Value) (s L : Bs) (ha : a = .pointer none ∨ a = selfP b) (hv : ∃ x m c, v = .slice x m c) (hb : L.length + s.length ≤ 100000000) :
    Does Try.prog 28 [selfP b, .string (mkB s)] [blk b [a, v] 46, rowL encB8 v 5 1 L] h (Ret fun r R' _ => ∃ r1 v', r = .tuple #[r1, .nilIface] ∧ (∃ x m c, v' = .slice x m c) ∧ (s = [] → v' = v) ∧ R' = [blk b [selfP b, v'] 46, rowL encB8 v' 5 1 (L ++ s)]) := by
  have hc := cc_fn h b a v ha hv
  have hss := mkB_size s
  obtain ⟨x, m, c, rfl⟩ := hv
  refine Does_of_W Try.func28 rfl (n := 19) rfl rfl (by simp only [argE, Nat.reduceAdd] <;> rfl) ?_
  (repeat (first | refine W_seq ?_))
  skip
  refine W_region rfl ?_
  refine WL_is (X_assign rfl rfl) rfl rfl rfl ?_
  refine WL_is (X_assign rfl rfl) rfl rfl rfl ?_
  (repeat (first | refine WL_nil ?_ | refine Then_normal ?_ | refine W_seq ?_))
  skip
  refine W_region rfl ?_
  refine WL_is (X_move rfl rfl) rfl rfl rfl ?_
  refine WL_callR [_] _ rfl rfl rfl Try.func38 rfl rfl rfl rfl (.refl _) hc ?_
  rintro _ _ H1 M1 rfl
  simp only [List.cons_append, List.nil_append]
  (repeat (first | refine WL_nil ?_ | refine Then_normal ?_ | refine W_seq ?_))
  skip
  refine W_region rfl ?_
  refine WL_is (X_move rfl rfl) rfl rfl rfl ?_
  refine WL_is (X_move rfl rfl) rfl rfl rfl ?_
  refine WL_is (X_nilCheck rfl rfl) rfl rfl rfl ?_
  refine WL_is (X_fieldAddr rfl rfl rfl (by simp only [Nat.zero_add] <;> rfl)) rfl rfl rfl ?_
  refine WL_is (X_load1 rfl rfl (by exact idx0) rfl rfl) rfl rfl rfl ?_
  refine WL_is (X_move rfl rfl) rfl rfl rfl ?_
  refine WL_appendS (i := 1) (L := L) (s := mkB s) rfl rfl rfl elem8 rfl rfl (by omega) rfl rfl rfl ?_
  intro v' he
  simp only [List.set_cons_zero, List.set_cons_succ, mkB_list]
  refine WL_updE (UpdE.shapeL 1 rfl) ?_
  rintro _ _ - ⟨rfl, rfl, xa, xc, rfl⟩
  refine WL_is (X_nilCheck rfl rfl) rfl rfl rfl ?_
  refine WL_is (X_fieldAddr rfl rfl rfl (by simp only [Nat.zero_add] <;> rfl)) rfl rfl rfl ?_
  refine WL_store rfl rfl rfl (by exact idx0) rfl rfl rfl rfl rfl rfl rfl rfl rfl ?_
  (repeat (first | refine WL_nil ?_ | refine Then_normal ?_ | refine W_seq ?_))
  skip
  refine W_region rfl ?_
  refine WL_is (X_move rfl rfl) rfl rfl rfl ?_
  refine WL_is (X_len_str rfl rfl rfl) rfl rfl rfl ?_
  refine WL_is (X_assign rfl rfl) rfl rfl rfl ?_
  refine WL_is (X_assign rfl rfl) rfl rfl rfl ?_
  (repeat (first | refine WL_nil ?_ | refine Then_normal ?_ | refine W_ret ?_))
  refine Body_vals (.cons (.tmp rfl) (.cons (.tmp rfl) .nil)) rfl ?_
  refine UpdE.of (Upd.refl _ _) ⟨_, _, rfl, ⟨_, _, _, rfl⟩, fun hs => he (by rw [hss, hs]; rfl), rfl⟩
set_option maxHeartbeats 400000 in
theorem grow_fn (h : PH) (b : Nat) (a : Value) (n : Nat) (hn : n ≤ 100000000) :
    Does Try.prog 44 [selfP b, .int .i64 (n : Int)] [blk b [a, .slice none 0 0] 46] h (Ret fun _ R' _ => ∃ v', (∃ x m c, v' = .slice x m c) ∧ R' = [blk b [a, v'] 46, rowL encB8 v' 5 1 []]) := by
  refine Does_of_W Try.func44 rfl (n := 30) rfl rfl (by simp only [argE, Nat.reduceAdd] <;> rfl) ?_
  (repeat (first | refine W_seq ?_))
  refine W_draw0 14 rfl rfl rfl rfl ?_
  refine RG_val rfl rfl (fun _ => rfl) (fun _ => X_move rfl rfl) ?_
  refine RG_val rfl rfl (fun _ => rfl) (fun _ => X_nilCheck rfl rfl) ?_
  refine RG_val rfl rfl (fun _ => rfl) (fun _ => X_fieldAddr rfl rfl rfl (by simp only [Nat.zero_add] <;> rfl)) ?_
  refine RG_val rfl rfl (fun _ => rfl) (fun _ => X_load1 rfl rfl (by exact idx0) rfl rfl) ?_
  refine RG_val rfl rfl (fun _ => rfl) (fun _ => X_cap rfl rfl rfl) ?_
  refine RG_val rfl rfl (fun _ => rfl) (fun _ => X_mulW rfl rfl rfl (by exact wrap_i64_in (by omega) (by omega))) ?_
  refine RG_val rfl rfl (fun _ => rfl) (fun _ => X_move rfl rfl) ?_
  refine RG_val rfl rfl (fun _ => rfl) (fun _ => X_addW rfl rfl rfl (by exact wrap_i64_in (by omega) (by omega))) ?_
  refine RG_gen (.opq (fun _ _ => True) [] fun v' => [mkR v' n 5]) (fun _ _ _ _ _ => trivial) rfl rfl (fun _ => rfl) ?_ ?_
  · intro vs h' hl hf
    refine (X_makeNoZero (m := 0 + n) (t := 44) (e := 5) (fn := Try.f49) rfl rfl rfl Try.func49 (by kernel_rfl) (by kernel_rfl) (by kernel_rfl) (by kernel_rfl) rfl (by omega)).mono ?_
    rintro e R' h'' - hA
    cases e with
    | returned v' => exact ⟨v', rfl, trivial, by rw [hA.1, Nat.zero_add]; exact SubR.refl _⟩
    | panicked ch => exact hA.elim
    | outgrown => exact hA.elim
  refine RG_val rfl rfl (fun _ => rfl) (fun _ => X_move rfl rfl) ?_
  refine RG_val rfl rfl (fun _ => rfl) (fun _ => X_nilCheck rfl rfl) ?_
  refine RG_val rfl rfl (fun _ => rfl) (fun _ => X_fieldAddr rfl rfl rfl (by simp only [Nat.zero_add] <;> rfl)) ?_
  refine RG_val rfl rfl (fun _ => rfl) (fun _ => X_load1 rfl rfl (by exact idx0) rfl rfl) ?_
  refine RG_val rfl rfl (fun _ => rfl) (fun _ => X_len rfl rfl rfl) ?_
  refine RG_nil ?_
  refine RG_end rfl (fun vs => by simp only [endE, List.cons_append, List.nil_append] <;> rfl) (fun vs => by simp only [endR, List.cons_append, List.nil_append, List.append_nil] <;> rfl) (fun vs h' hf => hf) ?_
  rintro vs H1 M1 -
  generalize vs 8 = w
  refine WL_updE (UpdE.wkn (A := fun R' => ∃ b2 cap c, w = .slice (some ⟨b2, 0, none⟩) n cap ∧ n ≤ cap ∧ c.length = cap ∧ R' = [blk b2 c 5, blk b [a, .slice none 0 0] 46]) ?_) ?_
  · rintro g ⟨x, y, e, hd, ⟨b2, cap, c, k1, k2, k3, k4⟩, hy⟩
    exact ⟨_, ⟨b2, cap, c, k1, k2, k3, rfl⟩, x, y, e, hd, k4, hy⟩
  rintro _ _ - ⟨rfl, b2, cap, c, rfl, hcap, hcl, rfl⟩
  refine WL_is (X_sliceHi (j := 0) rfl rfl rfl rfl rfl (by omega)) rfl rfl rfl ?_
  refine WL_is (X_assign rfl rfl) rfl rfl rfl ?_
  (repeat (first | refine WL_nil ?_ | refine Then_normal ?_ | refine W_seq ?_))
  skip
  refine W_region rfl ?_
  refine WL_is (X_move rfl rfl) rfl rfl rfl ?_
  refine WL_is (X_move rfl rfl) rfl rfl rfl ?_
  refine WL_is (X_nilCheck rfl rfl) rfl rfl rfl ?_
  refine WL_is (X_fieldAddr rfl rfl rfl (by simp only [Nat.zero_add] <;> rfl)) rfl rfl rfl ?_
  refine WL_is (X_load1 rfl rfl (by exact idx1) rfl rfl) rfl rfl rfl ?_
  refine WL_is (X_copyN rfl rfl rfl rfl rfl) rfl rfl rfl ?_
  refine WL_upd (Upd_row0 (enc := encB8) (cap := cap) (sz := 1) 0 rfl (by rw [hcl, Nat.mul_one])) ?_
  (repeat (first | refine WL_nil ?_ | refine Then_normal ?_))
  refine W_region rfl ?_
  refine WL_is (X_move rfl rfl) rfl rfl rfl ?_
  refine WL_is (X_move rfl rfl) rfl rfl rfl ?_
  refine WL_is (X_nilCheck rfl rfl) rfl rfl rfl ?_
  refine WL_is (X_fieldAddr rfl rfl rfl (by simp only [Nat.zero_add] <;> rfl)) rfl rfl rfl ?_
  refine WL_store rfl rfl rfl (by exact idx1) rfl rfl rfl rfl rfl rfl rfl rfl rfl ?_
  (repeat (first | refine WL_nil ?_))
  refine Body_end0 rfl rfl rfl (SubR.of_perm (.swap _ _ _)) ?_
  exact ⟨_, ⟨_, _, _, rfl⟩, rfl⟩
set_option maxHeartbeats 400000 in
theorem Grow_fn (h : PH) (b : Nat) (n : Nat) (h0 : 0 < n) (hn : n ≤ 100000000) :
    Does Try.prog 39 [selfP b, .int .i64 (n : Int)] [blk b [.pointer none, .slice none 0 0] 46] h (Ret fun _ R' _ => ∃ v', (∃ x m c, v' = .slice x m c) ∧ R' = [blk b [selfP b, v'] 46, rowL encB8 v' 5 1 []]) := by
  have hc := cc_fn h b (.pointer none) (.slice none 0 0) (.inl rfl) ⟨_, _, _, rfl⟩
  refine Does_of_W Try.func39 rfl (n := 25) rfl rfl (by simp only [argE, Nat.reduceAdd] <;> rfl) ?_
  (repeat (first | refine W_seq ?_))
  skip
  refine W_region rfl ?_
  refine WL_is (X_move rfl rfl) rfl rfl rfl ?_
  refine WL_callR [_] _ rfl rfl rfl Try.func38 rfl rfl rfl rfl (.refl _) hc ?_
  rintro _ _ H1 M1 rfl
  simp only [List.cons_append, List.nil_append]
  (repeat (first | refine WL_nil ?_ | refine Then_normal ?_ | refine W_seq ?_))
  skip
  refine W_region rfl ?_
  refine WL_is (X_move rfl rfl) rfl rfl rfl ?_
  refine WL_is (X_lss_f rfl rfl rfl (by omega)) rfl rfl rfl ?_
  (repeat (first | refine WL_nil ?_ | refine Then_normal ?_ | refine W_seq ?_ | refine W_skip ?_ | refine W_false rfl ?_))
  skip
  refine W_draw0 12 rfl rfl rfl rfl ?_
  refine RG_val rfl rfl (fun _ => rfl) (fun _ => X_move rfl rfl) ?_
  refine RG_val rfl rfl (fun _ => rfl) (fun _ => X_nilCheck rfl rfl) ?_
  refine RG_val rfl rfl (fun _ => rfl) (fun _ => X_fieldAddr rfl rfl rfl (by simp only [Nat.zero_add] <;> rfl)) ?_
  refine RG_val rfl rfl (fun _ => rfl) (fun _ => X_load1 rfl rfl (by exact idx0) rfl rfl) ?_
  refine RG_val rfl rfl (fun _ => rfl) (fun _ => X_cap rfl rfl rfl) ?_
  refine RG_val rfl rfl (fun _ => rfl) (fun _ => X_move rfl rfl) ?_
  refine RG_val rfl rfl (fun _ => rfl) (fun _ => X_nilCheck rfl rfl) ?_
  refine RG_val rfl rfl (fun _ => rfl) (fun _ => X_fieldAddr rfl rfl rfl (by simp only [Nat.zero_add] <;> rfl)) ?_
  refine RG_val rfl rfl (fun _ => rfl) (fun _ => X_load1 rfl rfl (by exact idx0) rfl rfl) ?_
  refine RG_val rfl rfl (fun _ => rfl) (fun _ => X_len rfl rfl rfl) ?_
  refine RG_val rfl rfl (fun _ => rfl) (fun _ => X_subW rfl rfl rfl (by exact wrap_i64_in (by omega) (by omega))) ?_
  refine RG_val rfl rfl (fun _ => rfl) (fun _ => X_move rfl rfl) ?_
  refine RG_nil ?_
  refine RG_endv rfl (fun vs => by simp only [endE, List.cons_append, List.nil_append] <;> rfl) (fun vs => rfl) ?_
  refine WL_is (X_lss_t rfl rfl rfl (by omega)) rfl rfl rfl ?_
  (repeat (first | refine WL_nil ?_ | refine Then_normal ?_ | refine W_true rfl ?_))
  skip
  refine W_region rfl ?_
  refine WL_is (X_move rfl rfl) rfl rfl rfl ?_
  refine WL_is (X_move rfl rfl) rfl rfl rfl ?_
  refine WL_callR [_] _ rfl rfl rfl Try.func44 rfl rfl rfl rfl (.refl _) (grow_fn H1 b _ n hn) ?_
  rintro _ _ H2 M2 ⟨v', hv', rfl⟩
  simp only [List.cons_append, List.nil_append]
  (repeat (first | refine WL_nil ?_))
  exact Body_end0 rfl rfl rfl (SubR.refl _) ⟨v', hv', rfl⟩
theorem same8 : sameLayout Try.prog Try.prog.depth 5 5 = true := by kernel_rfl
theorem str_fn (h : PH) (b : Nat) (a v : Value) (L : Bs) (hn : L = [] → v = .slice none 0 0) (hb : L.length ≤ 100000000) :
    Does Try.prog 30 [selfP b] [blk b [a, v] 46, rowL encB8 v 5 1 L] h (Ret fun r _ _ => r = .string (mkB L)) := by
  refine Does_of_W Try.func30 rfl (n := 14) rfl rfl (by simp only [argE] <;> rfl) ?_
  by_cases h0 : L = []
  · have hv := hn h0
    subst h0; subst hv
    (repeat (first | refine W_seq ?_))
    refine W_region rfl ?_
    refine WL_is (X_assign rfl rfl) rfl rfl rfl ?_
    (repeat (first | refine WL_nil ?_ | refine Then_normal ?_ | refine W_seq ?_))
    skip
    refine W_draw0 10 rfl rfl rfl rfl ?_
    refine RG_val rfl rfl (fun _ => rfl) (fun _ => X_move rfl rfl) ?_
    refine RG_val rfl rfl (fun _ => rfl) (fun _ => X_nilCheck rfl rfl) ?_
    refine RG_val rfl rfl (fun _ => rfl) (fun _ => X_fieldAddr rfl rfl rfl (by simp only [Nat.zero_add] <;> rfl)) ?_
    refine RG_val rfl rfl (fun _ => rfl) (fun _ => X_load1 rfl rfl (by exact idx0) rfl rfl) ?_
    refine RG_val rfl rfl (fun _ => rfl) (fun _ => X_unsafeDataN rfl rfl) ?_
    refine RG_val rfl rfl (fun _ => rfl) (fun _ => X_move rfl rfl) ?_
    refine RG_val rfl rfl (fun _ => rfl) (fun _ => X_nilCheck rfl rfl) ?_
    refine RG_val rfl rfl (fun _ => rfl) (fun _ => X_fieldAddr rfl rfl rfl (by simp only [Nat.zero_add] <;> rfl)) ?_
    refine RG_val rfl rfl (fun _ => rfl) (fun _ => X_load1 rfl rfl (by exact idx0) rfl rfl) ?_
    refine RG_val rfl rfl (fun _ => rfl) (fun _ => X_len rfl rfl rfl) ?_
    refine RG_nil ?_
    refine RG_endv rfl (fun vs => by simp only [endE, List.cons_append, List.nil_append] <;> rfl) (fun vs => rfl) ?_
    refine WL_is (X_unsafeStringN rfl rfl rfl) rfl rfl rfl ?_
    refine WL_is (X_assign rfl rfl) rfl rfl rfl ?_
    (repeat (first | refine WL_nil ?_ | refine Then_normal ?_ | refine W_ret ?_))
    refine Body_end rfl rfl rfl (SubR.none _) ?_
    rfl
  · have hl : 0 < L.length := by cases L with | nil => exact absurd rfl h0 | cons => simp
    refine W_updE (UpdE.rowBlk (enc := encB8) 1 rfl hl) ?_
    rintro _ H1 M1 ⟨rfl, b2, cap, c, rfl, h1, h2, h3, rfl⟩
    simp only [List.set_cons_zero, List.set_cons_succ]
    rw [Nat.mul_one] at h2 h3
    (repeat (first | refine W_seq ?_))
    refine W_region rfl ?_
    refine WL_is (X_assign rfl rfl) rfl rfl rfl ?_
    (repeat (first | refine WL_nil ?_ | refine Then_normal ?_ | refine W_seq ?_))
    skip
    refine W_draw0 10 rfl rfl rfl rfl ?_
    refine RG_val rfl rfl (fun _ => rfl) (fun _ => X_move rfl rfl) ?_
    refine RG_val rfl rfl (fun _ => rfl) (fun _ => X_nilCheck rfl rfl) ?_
    refine RG_val rfl rfl (fun _ => rfl) (fun _ => X_fieldAddr rfl rfl rfl (by simp only [Nat.zero_add] <;> rfl)) ?_
    refine RG_val rfl rfl (fun _ => rfl) (fun _ => X_load1 rfl rfl (by exact idx0) rfl rfl) ?_
    refine RG_val rfl rfl (fun _ => rfl) (fun _ => X_unsafeData rfl rfl (by omega)) ?_
    refine RG_val rfl rfl (fun _ => rfl) (fun _ => X_move rfl rfl) ?_
    refine RG_val rfl rfl (fun _ => rfl) (fun _ => X_nilCheck rfl rfl) ?_
    refine RG_val rfl rfl (fun _ => rfl) (fun _ => X_fieldAddr rfl rfl rfl (by simp only [Nat.zero_add] <;> rfl)) ?_
    refine RG_val rfl rfl (fun _ => rfl) (fun _ => X_load1 rfl rfl (by exact idx0) rfl rfl) ?_
    refine RG_val rfl rfl (fun _ => rfl) (fun _ => X_len rfl rfl rfl) ?_
    refine RG_nil ?_
    refine RG_endv rfl (fun vs => by simp only [endE, List.cons_append, List.nil_append] <;> rfl) (fun vs => rfl) ?_
    obtain ⟨d1, hd1⟩ : ∃ d1, Try.prog.depth = d1 + 1 := ⟨Try.prog.depth - 1, by decide +kernel⟩
    refine WL_any (X_unsafeString (i := 1) (L := L) rfl rfl rfl rfl rfl rfl hl h3 (by omega) (by omega) hd1 rfl same8) rfl rfl rfl ?_
    rintro v R' h' - ⟨rfl, rfl, rfl⟩
    refine WL_is (X_assign rfl rfl) rfl rfl rfl ?_
    (repeat (first | refine WL_nil ?_ | refine Then_normal ?_ | refine W_ret ?_))
    refine Body_end rfl rfl rfl (SubR.none _) ?_
    rfl
end Go.Proofs.Ythcolbdlalpcjaa
