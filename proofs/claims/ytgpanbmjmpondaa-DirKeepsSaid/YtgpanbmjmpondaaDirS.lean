/- Directories: which are the same. -/
import Derived.Test.YtgpanbmjmpondaaDirR
import Derived.ChangeKeysEq
namespace Go.Proofs.Ytgpanbmjmpondaa
set_option maxRecDepth 4000
open Go Go.Par PH
theorem cellsSlo : Try.prog.cellsOf 34 = 3 := by kernel_rfl
theorem eqItems_self (w : World) (sl : List Slo) (d : Nat) (hd : 8 ≤ d) : ∀ is : List Nat, (∀ i ∈ is, i < sl.length) → (Op.eqItems d 34 3 (sl.flatMap encSlo).toArray (sl.flatMap encSlo).toArray is).run Try.prog w = .ok true w
  | [], _ => by simp [Op.eqItems]
  | i :: is, h => by
    have hi := h i (by simp)
    have p1 := run_part (P := Try.prog) w (t := 34) (xs := sl.flatMap encSlo) (off := i * 3) (s := 3) rfl ⟨true, rfl, fun h => by cases h⟩
    rw [take3 sl i hi] at p1
    have e1 := run_eqT heldOk w d hd (eqSlo_t (rfl : sl[i] = sl[i]))
    have ih := eqItems_self w sl d hd is (fun j hj => h j (by simp [hj]))
    simp only [Op.eqItems, Sem.run_bind, p1, Result.andThen_ok, e1, Bool.not_true, Bool.false_eq_true, if_false, ih]
theorem eqChu_self (w : World) (x : Chu) (h : x.sl.length = 10) : (Op.equal 67 (.agg (encChu x).toArray) (.agg (encChu x).toArray)).run Try.prog w = .ok true w := by
  have hl := lenC h
  obtain ⟨f1, f2, hfs, n1, t1, o1, n2, t2, o2⟩ : ∃ f1 f2 : Field, (Try.prog.fieldsOf 67).toList = [f1, f2] ∧ f1.name ≠ "_" ∧ f1.type = 3 ∧ f1.offset = 0 ∧ f2.name ≠ "_" ∧ f2.type = 65 ∧ f2.offset = 1 := ⟨_, _, rfl, by decide, rfl, rfl, by decide, rfl, rfl⟩
  show (Op.equalIn (9999 + 1) 67 _ _).run Try.prog w = _
  rw [run_equalIn_struct w 9999 67 _ _ rfl (by kernel_rfl), hfs]
  have p1 := run_part (P := Try.prog) w (t := 3) (xs := encChu x) (off := 0) (s := 1) rfl ⟨false, rfl, fun _ => ⟨rfl, by omega⟩⟩
  have p2 := run_part (P := Try.prog) w (t := 65) (xs := encChu x) (off := 1) (s := 30) rfl ⟨true, rfl, fun h => by cases h⟩
  have q1 : mkV Try.prog 3 (((encChu x).drop 0).take 1) = .int .i64 x.blk := rfl
  have q2 : mkV Try.prog 65 (((encChu x).drop 1).take 30) = .agg (x.sl.flatMap encSlo).toArray := by
    have : ((encChu x).drop 1).take 30 = x.sl.flatMap encSlo := by
      show (x.sl.flatMap encSlo).take 30 = _
      rw [List.take_of_length_le]
      have h2 : (x.sl.flatMap encSlo).length = x.sl.length * 3 := flat_len x.sl (fun _ _ => rfl)
      omega
    rw [this]; rfl
  rw [q1] at p1; rw [q2] at p2
  have e1 : (Op.equalIn 9999 3 (.int .i64 x.blk) (.int .i64 x.blk)).run Try.prog w = .ok true w := by
    have := run_equalIn_int (P := Try.prog) w 9998 3 .i64 .i64 x.blk x.blk rfl
    simpa using this
  have e2 : (Op.equalIn 9999 65 (.agg (x.sl.flatMap encSlo).toArray) (.agg (x.sl.flatMap encSlo).toArray)).run Try.prog w = .ok true w := by
    rw [show (9999 : Nat) = 9998 + 1 from rfl, run_equalIn_array (P := Try.prog) (w := w) 9998 (t := 65) (e := 34) (n := 10) (i := _) _ _ rfl rfl, cellsSlo]
    exact eqItems_self w x.sl 9998 (by omega) _ (fun i hi => by rw [h]; exact List.mem_range.1 hi)
  simp only [Op.eqFields, n1, n2, t1, t2, o1, o2, ne_eq, not_false_eq_true, if_true, Sem.run_bind, p1, p2, Result.andThen_ok, e1, e2, Bool.not_true, Bool.false_eq_true, if_false, Sem.run_pure]
theorem guardChu : Try.prog.eqGuardType Try.prog.depth 67 = false := by kernel_rfl
section
variable {n : Nat} {o : Oper} {E : Env} {D : List Deferred} {R : List SL} {h : PH}
theorem X_neC {x y : Operand} {u : TypeId} {c : Chu} (hc : c.sl.length = 10) (ho : o.op = .binOp .neq 67 x y u) (hx : ev E x = some (.agg (encChu c).toArray)) (hy : ev E y = some (.agg (encChu c).toArray)) :
    Exec Try.prog n o ⟨E, D, R, h⟩ (Is (.bool false) R h) :=
  Exec_is fun a w ha => by
    have := eqChu_self w c hc
    simp [execOp, ho, ha.ev hx, ha.ev hy, eqGuard, binOp, this]
end
attribute [local irreducible] W WL Does Exec Body Then inBlk RG WR row obj pblk
set_option maxHeartbeats 4000000 in
theorem same_fn (h : PH) (v1 v2 : Value) (d : Dr) (g1 : DrV h v1 d) (g2 : DrV h v2 d) (hb : maxR d ≤ 1000000) : Does Try.prog 16 [v1, v2] [] h (Ret fun r _ _ => r = .bool true) := by
  have hte := g1.ten
  obtain ⟨x0, x1, x2, x3, rfl, h0, h1, h2, h3⟩ := g1
  obtain ⟨y0, y1, y2, y3, rfl, i0, i1, i2, i3⟩ := g2
  have hrow : ∀ k, k < 4 → ∃ xk yk, [x0, x1, x2, x3][k]? = some xk ∧ Sl encChu 31 h xk (d.row k) ∧ [y0, y1, y2, y3][k]? = some yk ∧ Sl encChu 31 h yk (d.row k) := fun k hk => by
    match k, hk with
    | 0, _ => exact ⟨x0, y0, rfl, h0, rfl, i0⟩
    | 1, _ => exact ⟨x1, y1, rfl, h1, rfl, i1⟩
    | 2, _ => exact ⟨x2, y2, rfl, h2, rfl, i2⟩
    | 3, _ => exact ⟨x3, y3, rfl, h3, rfl, i3⟩
  have hvc : vcO (drV x0 x1 x2 x3) = some [x0, x1, x2, x3] := forceL_all _
  have hvd : vcO (drV y0 y1 y2 y3) = some [y0, y1, y2, y3] := forceL_all _
  unfold drV at hvc hvd ⊢
  refine Does_of_W Try.func16 rfl (n := 46) rfl rfl (by simp only [argE, Nat.reduceAdd] <;> rfl) ?_
  (repeat (first | refine W_seq ?_))
  refine W_region rfl ?_
  refine WL_box rfl rfl hvc rfl rfl rfl ?_
  intro b2
  refine WL_box rfl rfl hvd rfl rfl rfl ?_
  intro b3
  refine WL_is (X_assign rfl rfl) rfl rfl rfl ?_
  (repeat (first | refine WL_nil ?_ | refine Then_normal ?_ | refine W_seq ?_))
  skip
  refine W_region rfl ?_
  refine WL_is (X_assign rfl rfl) rfl rfl rfl ?_
  (repeat (first | refine WL_nil ?_ | refine Then_normal ?_ | refine W_block ?_))
  refine W_loop (X := Nat) (L := fun k => ⟨[(5, .int .i64 (k : Int)), (2, .pointer (some ⟨b2, 0, none⟩)), (3, .pointer (some ⟨b3, 0, none⟩))], [], [blk b3 [y0, y1, y2, y3] 25, blk b2 [x0, x1, x2, x3] 25], h⟩) (p := fun k => k ≤ 4) (μ := fun k => 4 - k) 0 ⟨(by repeat (first | exact SubE_nil | refine SubE_cons rfl ?_)), rfl, SubR.refl _, rfl⟩ (Nat.zero_le _) ?_
  rintro k hk
  by_cases hk4 : k < 4
  · obtain ⟨xk, yk, hxk, hsx, hyk, hsy⟩ := hrow k hk4
    obtain ⟨xa, xc, rfl⟩ := hsx.shape
    obtain ⟨ya, yc, rfl⟩ := hsy.shape
    have hmx := row_le d k
    have hne : ¬ ((d.row k).length : Int) ≠ ((d.row k).length : Int) := by omega
    (repeat (first | refine W_seq ?_))
    refine W_region rfl ?_
    refine WL_is (X_move rfl rfl) rfl rfl rfl ?_
    refine WL_is (X_lss_t rfl rfl rfl (by omega)) rfl rfl rfl ?_
    (repeat (first | refine WL_nil ?_ | refine Then_normal ?_ | refine W_seq ?_ | refine W_skip ?_ | refine W_block ?_ | refine W_true rfl ?_))
    skip
    refine W_draw0 10 rfl rfl rfl rfl ?_
    refine RG_val rfl rfl (fun _ => rfl) (fun _ => X_move rfl rfl) ?_
    refine RG_val rfl rfl (fun _ => rfl) (fun _ => X_fieldAddr rfl rfl rfl (by simp only [Nat.zero_add] <;> rfl)) ?_
    refine RG_val rfl rfl (fun _ => rfl) (fun _ => X_index_arr (sz := 1) rfl rfl rfl rfl rfl (by omega) (by omega) (by simp only [Nat.zero_add, Int.toNat_natCast, Nat.mul_one] <;> rfl)) ?_
    refine RG_val rfl rfl (fun _ => rfl) (fun _ => X_load1 rfl rfl (by exact idx1) rfl (by assumption)) ?_
    refine RG_val rfl rfl (fun _ => rfl) (fun _ => X_len_sl rfl rfl rfl (by assumption)) ?_
    refine RG_val rfl rfl (fun _ => rfl) (fun _ => X_move rfl rfl) ?_
    refine RG_val rfl rfl (fun _ => rfl) (fun _ => X_fieldAddr rfl rfl rfl (by simp only [Nat.zero_add] <;> rfl)) ?_
    refine RG_val rfl rfl (fun _ => rfl) (fun _ => X_index_arr (sz := 1) rfl rfl rfl rfl rfl (by omega) (by omega) (by simp only [Nat.zero_add, Int.toNat_natCast, Nat.mul_one] <;> rfl)) ?_
    refine RG_val rfl rfl (fun _ => rfl) (fun _ => X_load1 rfl rfl (by exact idx0) rfl (by assumption)) ?_
    refine RG_val rfl rfl (fun _ => rfl) (fun _ => X_len_sl rfl rfl rfl (by assumption)) ?_
    refine RG_nil ?_
    refine RG_endv rfl (fun vs => by simp only [endE, List.cons_append, List.nil_append] <;> rfl) (fun vs => rfl) ?_
    refine WL_is (X_neq_f rfl rfl rfl (by omega)) rfl rfl rfl ?_
    (repeat (first | refine WL_nil ?_ | refine Then_normal ?_ | refine W_seq ?_ | refine W_skip ?_ | refine W_false rfl ?_))
    skip
    refine W_region rfl ?_
    refine WL_is (X_assign rfl rfl) rfl rfl rfl ?_
    (repeat (first | refine WL_nil ?_ | refine Then_normal ?_ | refine W_block ?_))
    refine W_loop (X := Nat) (L := fun i => ⟨[(6, .int .i64 (i : Int)), (5, .int .i64 (k : Int)), (2, .pointer (some ⟨b2, 0, none⟩)), (3, .pointer (some ⟨b3, 0, none⟩))], [], [blk b3 [y0, y1, y2, y3] 25, blk b2 [x0, x1, x2, x3] 25], h⟩) (p := fun i => i ≤ (d.row k).length) (μ := fun i => (d.row k).length - i) 0 ⟨(by repeat (first | exact SubE_nil | refine SubE_cons rfl ?_)), rfl, SubR.refl _, rfl⟩ (Nat.zero_le _) ?_
    rintro i hi
    by_cases hil : i < (d.row k).length
    · have h10 : (d.row k)[i].sl.length = 10 := hte k hk4 _ (List.getElem_mem hil)
      have h31 := lenC h10
      (repeat (first | refine W_seq ?_))
      refine W_region rfl ?_
      refine WL_is (X_move rfl rfl) rfl rfl rfl ?_
      refine WL_is (X_move rfl rfl) rfl rfl rfl ?_
      refine WL_is (X_fieldAddr rfl rfl rfl (by simp only [Nat.zero_add] <;> rfl)) rfl rfl rfl ?_
      refine WL_is (X_index_arr (sz := 1) rfl rfl rfl rfl rfl (by omega) (by omega) (by simp only [Nat.zero_add, Int.toNat_natCast, Nat.mul_one] <;> rfl)) rfl rfl rfl ?_
      refine WL_is (X_load1 rfl rfl (by exact idx1) rfl (by assumption)) rfl rfl rfl ?_
      refine WL_is (X_len_sl rfl rfl rfl (by assumption)) rfl rfl rfl ?_
      refine WL_is (X_lss_t rfl rfl rfl (by omega)) rfl rfl rfl ?_
      (repeat (first | refine WL_nil ?_ | refine Then_normal ?_ | refine W_seq ?_ | refine W_skip ?_ | refine W_block ?_ | refine W_true rfl ?_))
      skip
      refine W_draw0 14 rfl rfl rfl rfl ?_
      refine RG_val rfl rfl (fun _ => rfl) (fun _ => X_move rfl rfl) ?_
      refine RG_val rfl rfl (fun _ => rfl) (fun _ => X_fieldAddr rfl rfl rfl (by simp only [Nat.zero_add] <;> rfl)) ?_
      refine RG_val rfl rfl (fun _ => rfl) (fun _ => X_index_arr (sz := 1) rfl rfl rfl rfl rfl (by omega) (by omega) (by simp only [Nat.zero_add, Int.toNat_natCast, Nat.mul_one] <;> rfl)) ?_
      refine RG_val rfl rfl (fun _ => rfl) (fun _ => X_load1 rfl rfl (by exact idx1) rfl (by assumption)) ?_
      refine RG_val rfl rfl (fun _ => rfl) (fun _ => X_move rfl rfl) ?_
      (refine RG_index_slN rfl rfl rfl (fun _ => rfl) (fun _ => rfl) (by assumption) (by omega) rfl rfl (fun _ => rfl) ?_; intro p_ hp_)
      refine RG_val rfl rfl (fun _ => rfl) (fun _ => X_loadA_at rfl rfl hp_ rfl rfl h31) ?_
      refine RG_val rfl rfl (fun _ => rfl) (fun _ => X_move rfl rfl) ?_
      refine RG_val rfl rfl (fun _ => rfl) (fun _ => X_fieldAddr rfl rfl rfl (by simp only [Nat.zero_add] <;> rfl)) ?_
      refine RG_val rfl rfl (fun _ => rfl) (fun _ => X_index_arr (sz := 1) rfl rfl rfl rfl rfl (by omega) (by omega) (by simp only [Nat.zero_add, Int.toNat_natCast, Nat.mul_one] <;> rfl)) ?_
      refine RG_val rfl rfl (fun _ => rfl) (fun _ => X_load1 rfl rfl (by exact idx0) rfl (by assumption)) ?_
      refine RG_val rfl rfl (fun _ => rfl) (fun _ => X_move rfl rfl) ?_
      (refine RG_index_slN rfl rfl rfl (fun _ => rfl) (fun _ => rfl) (by assumption) (by omega) rfl rfl (fun _ => rfl) ?_; intro p_ hp_)
      refine RG_val rfl rfl (fun _ => rfl) (fun _ => X_loadA_at rfl rfl hp_ rfl rfl h31) ?_
      refine RG_nil ?_
      refine RG_endv rfl (fun vs => by simp only [endE, List.cons_append, List.nil_append] <;> rfl) (fun vs => rfl) ?_
      refine WL_is (X_neC h10 rfl rfl rfl) rfl rfl rfl ?_
      (repeat (first | refine WL_nil ?_ | refine Then_normal ?_ | refine W_skip ?_ | refine inBlk_normal ?_ | refine W_false rfl ?_))
      skip
      refine W_region rfl ?_
      refine WL_is (X_move rfl rfl) rfl rfl rfl ?_
      refine WL_is (X_addW rfl rfl rfl (by exact wrap_i64_in (by omega) (by omega))) rfl rfl rfl ?_
      refine WL_is (X_assign rfl rfl) rfl rfl rfl ?_
      (repeat (first | refine WL_nil ?_ | refine Then_normal ?_))
      exact ⟨i + 1, ⟨(by repeat (first | exact SubE_nil | refine SubE_cons rfl ?_)), rfl, SubR.refl _, rfl⟩, hil, by omega⟩
    · (repeat (first | refine W_seq ?_))
      refine W_region rfl ?_
      refine WL_is (X_move rfl rfl) rfl rfl rfl ?_
      refine WL_is (X_move rfl rfl) rfl rfl rfl ?_
      refine WL_is (X_fieldAddr rfl rfl rfl (by simp only [Nat.zero_add] <;> rfl)) rfl rfl rfl ?_
      refine WL_is (X_index_arr (sz := 1) rfl rfl rfl rfl rfl (by omega) (by omega) (by simp only [Nat.zero_add, Int.toNat_natCast, Nat.mul_one] <;> rfl)) rfl rfl rfl ?_
      refine WL_is (X_load1 rfl rfl (by exact idx1) rfl (by assumption)) rfl rfl rfl ?_
      refine WL_is (X_len_sl rfl rfl rfl (by assumption)) rfl rfl rfl ?_
      refine WL_is (X_lss_f rfl rfl rfl (by omega)) rfl rfl rfl ?_
      (repeat (first | refine WL_nil ?_ | refine Then_normal ?_ | refine W_exit ?_ | refine Then_exit ?_ | refine inBlk_normal ?_ | refine inBlk_here ?_ | refine W_false rfl ?_))
      skip
      refine W_region rfl ?_
      refine WL_is (X_move rfl rfl) rfl rfl rfl ?_
      refine WL_is (X_addW rfl rfl rfl (by exact wrap_i64_in (by omega) (by omega))) rfl rfl rfl ?_
      refine WL_is (X_assign rfl rfl) rfl rfl rfl ?_
      (repeat (first | refine WL_nil ?_ | refine Then_normal ?_))
      exact ⟨k + 1, ⟨(by repeat (first | exact SubE_nil | refine SubE_cons rfl ?_)), rfl, SubR.refl _, rfl⟩, hk4, by omega⟩
  · (repeat (first | refine W_seq ?_))
    refine W_region rfl ?_
    refine WL_is (X_move rfl rfl) rfl rfl rfl ?_
    refine WL_is (X_lss_f rfl rfl rfl (by omega)) rfl rfl rfl ?_
    (repeat (first | refine WL_nil ?_ | refine Then_normal ?_ | refine W_seq ?_ | refine W_exit ?_ | refine Then_exit ?_ | refine inBlk_here ?_ | refine W_false rfl ?_))
    skip
    refine W_region rfl ?_
    refine WL_is (X_assign rfl rfl) rfl rfl rfl ?_
    (repeat (first | refine WL_nil ?_ | refine Then_normal ?_ | refine W_ret ?_))
    refine Body_end rfl rfl rfl (SubR.none _) ?_
    rfl
end Go.Proofs.Ytgpanbmjmpondaa
