/- Names and paths: the law on joins. -/
import Derived.Test.YthcolbdlalpcjaaNameN
namespace Go.Par
open Go PH
section
variable {P : Program} {n : Nat} {ops : Array Oper} {l : List Oper} {o : Oper} {E0 : Env} {D : List Deferred} {R : List SL} {h : PH} {K : Done → Prop} {i : Nat} {dn : Done}
/-- append to nil, of what is only read from here on. -/
theorem RG_appendK {α : Type} {enc : α → List Value} {sz : Nat} {x y : Operand} {t tx e : TypeId} {by_ : Nat} {u : (Nat → Value) → Value} {L' : List α} {d : Tmp} (ho : o.op = .call ⟨.builtin .append, #[x, y], #[t, tx]⟩) (hlen : ∀ x ∈ L', (enc x).length = sz)
    (hx : ∀ vs, ev (av o.after.toList vs dn ++ E0) x = some (.slice none 0 0)) (hy : ∀ vs, ev (av o.after.toList vs dn ++ E0) y = some (u vs))
    (ht : ElemT P t e sz by_) (htx : slOf P tx = some e) (hsrc : ∀ vs h', le h h' → fc o.after.toList vs h' dn → Sl enc sz h' (u vs) L') (hfl : ∀ x ∈ L', (enc x).all flat = true)
    (hb : L'.length * by_ ≤ 140737488355328) (hm : L'.length ≤ 9223372036854775807) (hd : o.dst = some d) (hn : Nat.blt d n = true) (hg : ∀ vs, gd ops (av o.after.toList vs dn ++ E0) o = some true)
    (k : RG P n ops E0 D R h K (i + 1) l ((i, some d, .opq (fun v h => Sl enc sz h v L') [] fun _ => []) :: dn)) : RG P n ops E0 D R h K i (o :: l) dn := by
  refine RG_gen (.opq (fun v h => Sl enc sz h v L') [] fun _ => []) (fun _ _ _ hl x => x.mono hl) hd hn hg ?_ k
  intro vs h' hl hf
  refine Exec_upd (Upd.nilrow (e := e) (sz := sz)) (le.refl _) ?_
  refine (Exec_updE (B := fun v R' h'' => Sl enc sz h'' v L' ∧ R' = R) (X_appendO (enc := enc) (L := []) (R := row (.slice none 0 0) e sz 0 [] :: R) (i := 0) ho (hx vs) (hy vs) ht htx rfl (Src.sl (hsrc vs h' hl hf)) hfl (by simpa using hb) (by simpa using hm)) ?_).mono ?_
  · rintro v R' h'' ⟨rfl, rfl⟩
    refine (UpdE.row (enc := enc) (L := [] ++ L') 0 rfl (by simpa using hlen)).mono ?_
    rintro R'' h2 - ⟨rfl, hsl⟩
    exact ⟨hsl, rfl⟩
  · rintro e R' h'' - hA
    cases e with
    | returned v => exact ⟨v, rfl, hA.1, by rw [hA.2]; exact SubR.refl _⟩
    | panicked ch => exact hA.elim
    | outgrown => exact hA.elim
end
end Go.Par
namespace Go.Proofs.Ythcolbdlalpcjaa
set_option maxRecDepth 4000
open Go Go.Par PH
attribute [local irreducible] W WL Does Exec Body Then inBlk RG WR row obj pblk
set_option maxHeartbeats 2000000 in
theorem joins_law (h : PH) (p : Pth) (v : Value) (hv : PthV h v p) : Does Try.prog 5 [v] [] h (Ret fun r _ _ => r = .bool true) := by
  have hv' := hv
  have hal := aliveN_fn h
  obtain ⟨a, c, rfl, hx⟩ := hv.shape
  unfold pthV
  refine Does_of_W Try.func5 rfl (n := 63) rfl rfl (by simp only [argE] <;> rfl) ?_
  (repeat (first | refine W_seq ?_))
  refine W_region rfl ?_
  (refine WL_box rfl rfl rfl rfl rfl rfl ?_; intro b_)
  refine WL_is (X_assign rfl rfl) rfl rfl rfl ?_
  (repeat (first | refine WL_nil ?_ | refine Then_normal ?_ | refine W_seq ?_))
  generalize b_ = pb
  skip
  refine W_region rfl ?_
  refine WL_is (X_assign rfl rfl) rfl rfl rfl ?_
  (repeat (first | refine WL_nil ?_ | refine Then_normal ?_ | refine W_seq ?_))
  skip
  refine W_region rfl ?_
  refine WL_is (X_assign rfl rfl) rfl rfl rfl ?_
  (repeat (first | refine WL_nil ?_ | refine Then_normal ?_ | refine W_block ?_))
  refine W_loop (X := Nat) (L := fun j => ⟨[(4, .int .i64 (j : Int)), (3, .int .i64 ((sumT (p.ps.take j) : Nat) : Int)), (1, .pointer (some ⟨pb, 0, none⟩))], [], [blk pb (pthC p (.slice a p.ps.length c)) 29], h⟩) (p := fun j => j ≤ p.ps.length ∧ j ≤ 100 ∧ sumT (p.ps.take j) ≤ 500 * j) (μ := fun j => p.ps.length - j) 0 ⟨(by repeat (first | exact SubE_nil | refine SubE_cons rfl ?_)), rfl, SubR.refl _, rfl⟩ ⟨Nat.zero_le _, Nat.zero_le _, by simp [sumT]⟩ ?_
  rintro j ⟨hj, hj1, hsum⟩
  by_cases hlt : j < p.ps.length ∧ j < 100
  · obtain ⟨hlt, hl100⟩ := hlt
    have hl100i : (j : Int) < 100 := by omega
    have hss := mkB_size p.ps[j]
    have hsu := sumT_succ hlt
    (repeat (first | refine W_seq ?_))
    refine W_region rfl ?_
    refine WL_is (X_move rfl rfl) rfl rfl rfl ?_
    refine WL_is (X_fieldAddr rfl rfl rfl (by simp only [Nat.zero_add] <;> rfl)) rfl rfl rfl ?_
    refine WL_is (X_load1 rfl rfl (by exact idx0) rfl rfl) rfl rfl rfl ?_
    refine WL_is (X_len_sl rfl rfl rfl (by assumption)) rfl rfl rfl ?_
    refine WL_is (X_lss_t rfl rfl rfl (by omega)) rfl rfl rfl ?_
    refine WL_is (X_move rfl rfl) rfl rfl rfl ?_
    refine WL_is (X_move rfl rfl) rfl rfl rfl ?_
    refine WL_is (X_lss_t rfl rfl rfl (by omega)) rfl rfl rfl ?_
    refine WL_is (X_pick_t rfl rfl rfl) rfl rfl rfl ?_
    (repeat (first | refine WL_nil ?_ | refine Then_normal ?_ | refine W_seq ?_ | refine W_skip ?_ | refine W_block ?_ | refine W_true rfl ?_))
    by_cases hb : ((mkB p.ps[j]).size : Int) > 500
    · skip
      refine W_region rfl ?_
      refine WL_is (X_fieldAddr rfl rfl rfl (by simp only [Nat.zero_add] <;> rfl)) rfl rfl rfl ?_
      refine WL_is (X_load1 rfl rfl (by exact idx0) rfl rfl) rfl rfl rfl ?_
      refine WL_is (X_move rfl rfl) rfl rfl rfl ?_
      (refine WL_index_slN rfl rfl rfl rfl rfl (by assumption) (by omega) rfl rfl rfl ?_; intro p_ hp_)
      refine WL_is (X_load1_at rfl rfl (by assumption) rfl rfl) rfl rfl rfl ?_
      refine WL_is (X_len_str rfl rfl rfl) rfl rfl rfl ?_
      refine WL_is (X_gtr_t rfl rfl rfl (by omega)) rfl rfl rfl ?_
      (repeat (first | refine WL_nil ?_ | refine Then_normal ?_ | refine W_seq ?_ | refine W_true rfl ?_))
      skip
      refine W_region rfl ?_
      refine WL_is (X_callv rfl rfl rfl Try.func8 rfl (by assumption)) rfl rfl rfl ?_
      refine WL_is (X_assign rfl rfl) rfl rfl rfl ?_
      (repeat (first | refine WL_nil ?_ | refine Then_normal ?_ | refine W_ret ?_ | refine Then_ret ?_ | refine inBlk_ret ?_))
      refine Body_end rfl rfl rfl (SubR.none _) ?_
      rfl
    · skip
      refine W_region rfl ?_
      refine WL_is (X_fieldAddr rfl rfl rfl (by simp only [Nat.zero_add] <;> rfl)) rfl rfl rfl ?_
      refine WL_is (X_load1 rfl rfl (by exact idx0) rfl rfl) rfl rfl rfl ?_
      refine WL_is (X_move rfl rfl) rfl rfl rfl ?_
      (refine WL_index_slN rfl rfl rfl rfl rfl (by assumption) (by omega) rfl rfl rfl ?_; intro p_ hp_)
      refine WL_is (X_load1_at rfl rfl (by assumption) rfl rfl) rfl rfl rfl ?_
      refine WL_is (X_len_str rfl rfl rfl) rfl rfl rfl ?_
      refine WL_is (X_gtr_f rfl rfl rfl (by omega)) rfl rfl rfl ?_
      (repeat (first | refine WL_nil ?_ | refine Then_normal ?_ | refine W_skip ?_ | refine W_false rfl ?_))
      skip
      refine W_region rfl ?_
      refine WL_is (X_move rfl rfl) rfl rfl rfl ?_
      refine WL_is (X_fieldAddr rfl rfl rfl (by simp only [Nat.zero_add] <;> rfl)) rfl rfl rfl ?_
      refine WL_is (X_load1 rfl rfl (by exact idx0) rfl rfl) rfl rfl rfl ?_
      refine WL_is (X_move rfl rfl) rfl rfl rfl ?_
      (refine WL_index_slN rfl rfl rfl rfl rfl (by assumption) (by omega) rfl rfl rfl ?_; intro p_ hp_)
      refine WL_is (X_load1_at rfl rfl (by assumption) rfl rfl) rfl rfl rfl ?_
      refine WL_is (X_len_str rfl rfl rfl) rfl rfl rfl ?_
      refine WL_is (X_addW rfl rfl rfl (by exact wrap_i64_in (by omega) (by omega))) rfl rfl rfl ?_
      refine WL_is (X_assign rfl rfl) rfl rfl rfl ?_
      (repeat (first | refine WL_nil ?_ | refine Then_normal ?_ | refine inBlk_normal ?_))
      skip
      refine W_region rfl ?_
      refine WL_is (X_move rfl rfl) rfl rfl rfl ?_
      refine WL_is (X_addW rfl rfl rfl (by exact wrap_i64_in (by omega) (by omega))) rfl rfl rfl ?_
      refine WL_is (X_assign rfl rfl) rfl rfl rfl ?_
      (repeat (first | refine WL_nil ?_ | refine Then_normal ?_))
      refine ⟨j + 1, ⟨?_, rfl, SubR.refl _, rfl⟩, ⟨by omega, by omega, by omega⟩, by omega⟩
      have e5 : ((sumT (p.ps.take (j + 1)) : Nat) : Int) = ((sumT (p.ps.take j) : Nat) : Int) + ((mkB p.ps[j]).size : Int) := by omega
      rw [e5]; exact (by repeat (first | exact SubE_nil | refine SubE_cons rfl ?_))
  · by_cases hbad : (p.ps.length : Int) > 60
    · by_cases hlt' : (j : Int) < (p.ps.length : Int)
      · have hl100i : ¬ (j : Int) < 100 := by omega
        (repeat (first | refine W_seq ?_))
        refine W_region rfl ?_
        refine WL_is (X_move rfl rfl) rfl rfl rfl ?_
        refine WL_is (X_fieldAddr rfl rfl rfl (by simp only [Nat.zero_add] <;> rfl)) rfl rfl rfl ?_
        refine WL_is (X_load1 rfl rfl (by exact idx0) rfl rfl) rfl rfl rfl ?_
        refine WL_is (X_len_sl rfl rfl rfl (by assumption)) rfl rfl rfl ?_
        refine WL_is (X_lss_t rfl rfl rfl (by omega)) rfl rfl rfl ?_
        refine WL_is (X_move rfl rfl) rfl rfl rfl ?_
        refine WL_is (X_move rfl rfl) rfl rfl rfl ?_
        refine WL_is (X_lss_f rfl rfl rfl (by omega)) rfl rfl rfl ?_
        refine WL_is (X_pick_t rfl rfl rfl) rfl rfl rfl ?_
        (repeat (first | refine WL_nil ?_ | refine Then_normal ?_ | refine W_seq ?_ | refine W_exit ?_ | refine Then_exit ?_ | refine inBlk_here ?_ | refine W_false rfl ?_))
        skip
        refine W_region rfl ?_
        refine WL_is (X_fieldAddr rfl rfl rfl (by simp only [Nat.zero_add] <;> rfl)) rfl rfl rfl ?_
        refine WL_is (X_load1 rfl rfl (by exact idx0) rfl rfl) rfl rfl rfl ?_
        refine WL_is (X_len_sl rfl rfl rfl (by assumption)) rfl rfl rfl ?_
        refine WL_is (X_gtr_t rfl rfl rfl (by omega)) rfl rfl rfl ?_
        refine WL_is (X_move rfl rfl) rfl rfl rfl ?_
        refine WL_off rfl rfl rfl ?_
        refine WL_off rfl rfl rfl ?_
        refine WL_is (X_pick_t rfl rfl rfl) rfl rfl rfl ?_
        (repeat (first | refine WL_nil ?_ | refine Then_normal ?_ | refine W_seq ?_ | refine W_true rfl ?_))
        skip
        refine W_region rfl ?_
        refine WL_is (X_callv rfl rfl rfl Try.func8 rfl (by assumption)) rfl rfl rfl ?_
        refine WL_is (X_assign rfl rfl) rfl rfl rfl ?_
        (repeat (first | refine WL_nil ?_ | refine Then_normal ?_ | refine W_ret ?_ | refine Then_ret ?_))
        refine Body_end rfl rfl rfl (SubR.none _) ?_
        rfl
      · (repeat (first | refine W_seq ?_))
        refine W_region rfl ?_
        refine WL_is (X_move rfl rfl) rfl rfl rfl ?_
        refine WL_is (X_fieldAddr rfl rfl rfl (by simp only [Nat.zero_add] <;> rfl)) rfl rfl rfl ?_
        refine WL_is (X_load1 rfl rfl (by exact idx0) rfl rfl) rfl rfl rfl ?_
        refine WL_is (X_len_sl rfl rfl rfl (by assumption)) rfl rfl rfl ?_
        refine WL_is (X_lss_f rfl rfl rfl (by omega)) rfl rfl rfl ?_
        refine WL_is (X_move rfl rfl) rfl rfl rfl ?_
        refine WL_off rfl rfl rfl ?_
        refine WL_off rfl rfl rfl ?_
        refine WL_is (X_pick_f rfl rfl rfl) rfl rfl rfl ?_
        (repeat (first | refine WL_nil ?_ | refine Then_normal ?_ | refine W_seq ?_ | refine W_exit ?_ | refine Then_exit ?_ | refine inBlk_here ?_ | refine W_false rfl ?_))
        skip
        refine W_region rfl ?_
        refine WL_is (X_fieldAddr rfl rfl rfl (by simp only [Nat.zero_add] <;> rfl)) rfl rfl rfl ?_
        refine WL_is (X_load1 rfl rfl (by exact idx0) rfl rfl) rfl rfl rfl ?_
        refine WL_is (X_len_sl rfl rfl rfl (by assumption)) rfl rfl rfl ?_
        refine WL_is (X_gtr_t rfl rfl rfl (by omega)) rfl rfl rfl ?_
        refine WL_is (X_move rfl rfl) rfl rfl rfl ?_
        refine WL_off rfl rfl rfl ?_
        refine WL_off rfl rfl rfl ?_
        refine WL_is (X_pick_t rfl rfl rfl) rfl rfl rfl ?_
        (repeat (first | refine WL_nil ?_ | refine Then_normal ?_ | refine W_seq ?_ | refine W_true rfl ?_))
        skip
        refine W_region rfl ?_
        refine WL_is (X_callv rfl rfl rfl Try.func8 rfl (by assumption)) rfl rfl rfl ?_
        refine WL_is (X_assign rfl rfl) rfl rfl rfl ?_
        (repeat (first | refine WL_nil ?_ | refine Then_normal ?_ | refine W_ret ?_ | refine Then_ret ?_))
        refine Body_end rfl rfl rfl (SubR.none _) ?_
        rfl
    · have hjl : j = p.ps.length := by omega
      subst hjl
      rw [List.take_length]
      rw [List.take_length] at hsum
      have hlt' : ¬ ((p.ps.length : Nat) : Int) < (p.ps.length : Int) := by omega
      by_cases hbig : ((sumT p.ps : Nat) : Int) > 2000
      · (repeat (first | refine W_seq ?_))
        refine W_region rfl ?_
        refine WL_is (X_move rfl rfl) rfl rfl rfl ?_
        refine WL_is (X_fieldAddr rfl rfl rfl (by simp only [Nat.zero_add] <;> rfl)) rfl rfl rfl ?_
        refine WL_is (X_load1 rfl rfl (by exact idx0) rfl rfl) rfl rfl rfl ?_
        refine WL_is (X_len_sl rfl rfl rfl (by assumption)) rfl rfl rfl ?_
        refine WL_is (X_lss_f rfl rfl rfl (by omega)) rfl rfl rfl ?_
        refine WL_is (X_move rfl rfl) rfl rfl rfl ?_
        refine WL_off rfl rfl rfl ?_
        refine WL_off rfl rfl rfl ?_
        refine WL_is (X_pick_f rfl rfl rfl) rfl rfl rfl ?_
        (repeat (first | refine WL_nil ?_ | refine Then_normal ?_ | refine W_seq ?_ | refine W_exit ?_ | refine Then_exit ?_ | refine inBlk_here ?_ | refine W_false rfl ?_))
        skip
        refine W_region rfl ?_
        refine WL_is (X_fieldAddr rfl rfl rfl (by simp only [Nat.zero_add] <;> rfl)) rfl rfl rfl ?_
        refine WL_is (X_load1 rfl rfl (by exact idx0) rfl rfl) rfl rfl rfl ?_
        refine WL_is (X_len_sl rfl rfl rfl (by assumption)) rfl rfl rfl ?_
        refine WL_is (X_gtr_f rfl rfl rfl (by omega)) rfl rfl rfl ?_
        refine WL_is (X_move rfl rfl) rfl rfl rfl ?_
        refine WL_is (X_move rfl rfl) rfl rfl rfl ?_
        refine WL_is (X_gtr_t rfl rfl rfl (by omega)) rfl rfl rfl ?_
        refine WL_is (X_pick_f rfl rfl rfl) rfl rfl rfl ?_
        (repeat (first | refine WL_nil ?_ | refine Then_normal ?_ | refine W_seq ?_ | refine W_true rfl ?_))
        skip
        refine W_region rfl ?_
        refine WL_is (X_callv rfl rfl rfl Try.func8 rfl (by assumption)) rfl rfl rfl ?_
        refine WL_is (X_assign rfl rfl) rfl rfl rfl ?_
        (repeat (first | refine WL_nil ?_ | refine Then_normal ?_ | refine W_ret ?_ | refine Then_ret ?_))
        refine Body_end rfl rfl rfl (SubR.none _) ?_
        rfl
      · (repeat (first | refine W_seq ?_))
        refine W_region rfl ?_
        refine WL_is (X_move rfl rfl) rfl rfl rfl ?_
        refine WL_is (X_fieldAddr rfl rfl rfl (by simp only [Nat.zero_add] <;> rfl)) rfl rfl rfl ?_
        refine WL_is (X_load1 rfl rfl (by exact idx0) rfl rfl) rfl rfl rfl ?_
        refine WL_is (X_len_sl rfl rfl rfl (by assumption)) rfl rfl rfl ?_
        refine WL_is (X_lss_f rfl rfl rfl (by omega)) rfl rfl rfl ?_
        refine WL_is (X_move rfl rfl) rfl rfl rfl ?_
        refine WL_off rfl rfl rfl ?_
        refine WL_off rfl rfl rfl ?_
        refine WL_is (X_pick_f rfl rfl rfl) rfl rfl rfl ?_
        (repeat (first | refine WL_nil ?_ | refine Then_normal ?_ | refine W_seq ?_ | refine W_exit ?_ | refine Then_exit ?_ | refine inBlk_here ?_ | refine W_false rfl ?_))
        skip
        refine W_region rfl ?_
        refine WL_is (X_fieldAddr rfl rfl rfl (by simp only [Nat.zero_add] <;> rfl)) rfl rfl rfl ?_
        refine WL_is (X_load1 rfl rfl (by exact idx0) rfl rfl) rfl rfl rfl ?_
        refine WL_is (X_len_sl rfl rfl rfl (by assumption)) rfl rfl rfl ?_
        refine WL_is (X_gtr_f rfl rfl rfl (by omega)) rfl rfl rfl ?_
        refine WL_is (X_move rfl rfl) rfl rfl rfl ?_
        refine WL_is (X_move rfl rfl) rfl rfl rfl ?_
        refine WL_is (X_gtr_f rfl rfl rfl (by omega)) rfl rfl rfl ?_
        refine WL_is (X_pick_f rfl rfl rfl) rfl rfl rfl ?_
        (repeat (first | refine WL_nil ?_ | refine Then_normal ?_ | refine W_seq ?_ | refine W_skip ?_ | refine W_false rfl ?_))
        skip
        refine W_draw0 9 rfl rfl rfl rfl ?_
        refine RG_val rfl rfl (fun _ => rfl) (fun _ => X_fieldAddr rfl rfl rfl (by simp only [Nat.zero_add] <;> rfl)) ?_
        refine RG_val rfl rfl (fun _ => rfl) (fun _ => X_load1 rfl rfl (by exact idx0) rfl rfl) ?_
        refine RG_val rfl rfl (fun _ => rfl) (fun _ => X_fieldAddr rfl rfl rfl (by simp only [Nat.zero_add] <;> rfl)) ?_
        refine RG_val rfl rfl (fun _ => rfl) (fun _ => X_load1 rfl rfl (by exact idx0) rfl rfl) ?_
        refine RG_val rfl rfl (fun _ => rfl) (fun _ => X_fieldAddr rfl rfl rfl (by simp only [Nat.zero_add] <;> rfl)) ?_
        refine RG_val rfl rfl (fun _ => rfl) (fun _ => X_load1 rfl rfl (by exact idx0) rfl rfl) ?_
        refine RG_appendK (enc := encP) (L' := p.ps) rfl (lenP _) (fun _ => rfl) (fun _ => rfl) elemP rfl (fun vs h' hl _ => hx.mono hl) (flatP _) (by omega) (by omega) rfl rfl (fun _ => rfl) ?_
        refine RG_gen (.opq (fun v h => PthV h v p) [] fun _ => []) (fun _ _ _ hl x => x.mono hl) rfl rfl (fun _ => rfl) ?_ ?_
        · intro vs h' hl hf
          have hf1 : Sl encP 1 h' (vs 6) p.ps := hf.1
          obtain ⟨sa, sc, e6⟩ := hf1.shape
          refine (X_build (vs := [(0, .bool p.ab), (1, .bool p.dr), (2, .slice sa p.ps.length sc)]) rfl ?_ rfl).mono ?_
          · show some [(0, Value.bool p.ab), (1, Value.bool p.dr), (2, vs 6)] = _
            rw [e6]
          rintro e R' h'' hle ⟨rfl, rfl, rfl⟩
          rw [e6] at hf1
          exact ⟨_, rfl, ⟨_, rfl, hf1⟩, SubR.refl _⟩
        refine RG_alloc rfl rfl rfl rfl rfl (fun _ => rfl) ?_
        refine RG_nil ?_
        refine RG_end rfl (fun vs => by simp only [endE, List.cons_append, List.nil_append] <;> rfl) (fun vs => by simp only [endR, List.cons_append, List.nil_append, List.append_nil] <;> rfl) (fun vs h' hf => hf) ?_
        rintro vs H1 M1 hf
        have hp1 : PthV H1 (vs 7) p := hf.2.1
        clear hf
        generalize vs 7 = w at *
        generalize vs 8 = q at *
        refine WL_updE (UpdE.pblk 0 rfl) ?_
        rintro _ H1 - ⟨rfl, nb, rfl, rfl⟩
        simp only [List.set_cons_zero]
        obtain ⟨a2, c2, rfl, hx2⟩ := hp1.shape
        have hv1 := hv'.mono M1
        have j1 := join_fn H1 p _ hp1 (by omega) (by omega)
        have j2 := join_ref H1 p _ hv1 (by omega) (by omega)
        have hsm := samep_ref H1 _ _ _ _ hp1 hv1 (by omega) (by omega)
        rw [same_self] at hsm
        have hal1 := aliveN_fn H1
        have zz : (mkB (joinR p) == mkB (joinR p)) = true := by rw [beqB_iff, decide_eq_true rfl]
        unfold pthV at j1 j2 hsm ⊢
        refine WL_store rfl rfl rfl (by exact idx0) rfl rfl rfl rfl rfl rfl rfl rfl rfl ?_
        (repeat (first | refine WL_nil ?_ | refine Then_normal ?_ | refine W_seq ?_))
        skip
        refine W_draw0 8 rfl rfl rfl rfl ?_
        refine RG_val rfl rfl (fun _ => rfl) (fun _ => X_loadA rfl rfl (by exact idx0) rfl rfl rfl) ?_
        refine RG_val rfl rfl (fun _ => rfl) (fun _ => X_callv rfl rfl rfl Try.func18 rfl (by assumption)) ?_
        refine RG_val rfl rfl (fun _ => rfl) (fun _ => X_loadA rfl rfl (by exact idx1) rfl rfl rfl) ?_
        refine RG_val rfl rfl (fun _ => rfl) (fun _ => X_callv rfl rfl rfl Try.func19 rfl (by assumption)) ?_
        refine RG_val rfl rfl (fun _ => rfl) (fun _ => X_eqS_c rfl rfl rfl (by assumption)) ?_
        refine RG_val rfl rfl (fun _ => rfl) (fun _ => X_move rfl rfl) ?_
        refine RG_val rfl rfl (fun _ => rfl) (fun _ => X_loadA rfl rfl (by exact idx0) rfl rfl rfl) ?_
        refine RG_val rfl rfl (fun _ => rfl) (fun _ => X_loadA rfl rfl (by exact idx1) rfl rfl rfl) ?_
        refine RG_nil ?_
        refine RG_endv rfl (fun vs => by simp only [endE, List.cons_append, List.nil_append] <;> rfl) (fun vs => rfl) ?_
        refine WL_is (X_callv rfl rfl rfl Try.func17 rfl (by assumption)) rfl rfl rfl ?_
        refine WL_is (X_pick_t rfl rfl rfl) rfl rfl rfl ?_
        refine WL_is (X_move rfl rfl) rfl rfl rfl ?_
        refine WL_is (X_callv rfl rfl rfl Try.func8 rfl (by assumption)) rfl rfl rfl ?_
        refine WL_is (X_pick_t rfl rfl rfl) rfl rfl rfl ?_
        refine WL_is (X_assign rfl rfl) rfl rfl rfl ?_
        (repeat (first | refine WL_nil ?_ | refine Then_normal ?_ | refine W_ret ?_))
        refine Body_end rfl rfl rfl (SubR.none _) ?_
        rfl
end Go.Proofs.Ythcolbdlalpcjaa
