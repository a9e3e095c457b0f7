/- Directories: what is found (dir.Find). -/
import Derived.Test.YtgpanbmjmpondaaDirF
import Derived.Test.YtgpanbmjmpondaaEngZ
namespace Go.Proofs.Ytgpanbmjmpondaa
set_option maxRecDepth 4000
open Go Go.Par PH
def fndL (s : Bs) (l : List (Spo × Slo)) : Option (Spo × Slo) := l.find? fun e => decide (e.2.nm = s)
def spo0 : Spo := ⟨0, 0, 0⟩
def findR (d : Dr) (s : Bs) : Spo × Slo × Int := if mayD d = true then (match fndL s (allL d) with | some e => (e.1, e.2, 0) | none => (spo0, slo0, 3)) else (spo0, slo0, 2)
def findV (r : Spo × Slo × Int) : Value := .tuple #[spoV r.1, sloV r.2.1, .int .i64 r.2.2]
theorem fnd_all {s : Bs} (hs : ¬ s = []) (l : List (Spo × Slo)) : fndL s (neL l) = fndL s l := by
  unfold fndL neL
  rw [List.find?_filter]
  congr 1
  funext e
  by_cases h : e.2 = slo0
  · have : ¬ e.2.nm = s := fun h2 => hs (by rw [← h2, h]; rfl)
    simp [h]
    exact fun e => hs e.symm
  · simp [h]
theorem may_ne {d : Dr} (hm : mayD d = true) {e : Spo × Slo} (he : e ∈ allL d) : ¬ e.2.nm = [] := fun h => by
  simp only [mayD, goodL, Bool.and_eq_true, List.all_eq_true] at hm
  have := hm.2.1 e he
  simp only [okS, Bool.and_eq_true, decide_eq_true_eq] at this
  rw [h] at this
  exact absurd this.2.1 (by decide)
theorem fnd_nil {d : Dr} (hm : mayD d = true) : fndL [] (allL d) = none := by
  unfold fndL
  rw [List.find?_eq_none]
  intro e he
  simpa using may_ne hm he
structure FX where
  p : Spo
  x : Slo
  e : Int
def spoC (x : Spo) : List Value := [.int .i64 x.b, .int .i64 x.c, .int .i64 x.s]
attribute [local irreducible] W WL Does Exec Body Then inBlk RG WR row obj pblk
set_option maxHeartbeats 4000000 in
theorem find_fn (h : PH) (v : Value) (d : Dr) (s : Bs) (hv : DrV h v d) (hb : maxR d ≤ 1000000) (hn : nmsOk d) : Does Try.prog 11 [v, .string (mkB s)] [] h (Ret fun r _ _ => r = findV (findR d s)) := by
  have hck := check_fn h v d hv hb hn
  have hs := slots_fn h _ d hv hb
  obtain ⟨x0, x1, x2, x3, rfl, h0, h1, h2, h3⟩ := hv
  obtain ⟨_, _, rfl⟩ := h0.shape
  obtain ⟨_, _, rfl⟩ := h1.shape
  obtain ⟨_, _, rfl⟩ := h2.shape
  obtain ⟨_, _, rfl⟩ := h3.shape
  have he : (mkB s == (⟨#[]⟩ : ByteArray)) = decide (s = []) := mkB_beq s []
  unfold drV at hs hck ⊢
  unfold checkD at hck
  unfold findR
  refine Does_of_WM Try.func11 rfl (n := 31) rfl rfl (by simp only [argE, Nat.reduceAdd] <;> rfl) ?_
  (repeat (first | refine W_seq ?_))
  refine W_region rfl ?_
  (refine WL_box rfl rfl rfl rfl rfl rfl ?_; intro b_)
  generalize b_ = b2
  (refine WL_box rfl rfl rfl rfl rfl rfl ?_; intro b_)
  generalize b_ = b3
  (refine WL_alloc rfl rfl rfl rfl rfl rfl ?_; intro b_)
  generalize b_ = b4
  (refine WL_alloc rfl rfl rfl rfl rfl rfl ?_; intro b_)
  generalize b_ = b5
  (refine WL_alloc rfl rfl rfl rfl rfl rfl ?_; intro b_)
  (repeat (first | refine WL_nil ?_ | refine Then_normal ?_ | refine W_seq ?_))
  generalize b_ = b6
  cases hm : mayD d with
  | false =>
    rw [hm, if_neg (by decide)] at hck
    skip
    refine W_region rfl ?_
    refine WL_is (X_loadA rfl rfl (by exact idx4) rfl rfl rfl) rfl rfl rfl ?_
    refine WL_is (X_callv rfl rfl rfl Try.func10 rfl (by assumption)) rfl rfl rfl ?_
    refine WL_is (X_assign rfl rfl) rfl rfl rfl ?_
    (repeat (first | refine WL_nil ?_ | refine Then_normal ?_ | refine W_seq ?_))
    skip
    refine W_region rfl ?_
    refine WL_is (X_move rfl rfl) rfl rfl rfl ?_
    refine WL_is (X_neq_t rfl rfl rfl (by omega)) rfl rfl rfl ?_
    (repeat (first | refine WL_nil ?_ | refine Then_normal ?_ | refine W_seq ?_ | refine W_true rfl ?_))
    skip
    refine W_region rfl ?_
    refine WL_is (X_build rfl rfl rfl) rfl rfl rfl ?_
    refine WL_is (X_build rfl rfl rfl) rfl rfl rfl ?_
    refine WL_is (X_move rfl rfl) rfl rfl rfl ?_
    refine WL_store rfl rfl rfl (by exact idx2) rfl rfl rfl rfl rfl rfl rfl rfl rfl ?_
    refine WL_store rfl rfl rfl (by exact idx1) rfl rfl rfl rfl rfl rfl rfl rfl rfl ?_
    refine WL_store rfl rfl rfl (by exact idx0) rfl rfl rfl rfl rfl rfl rfl rfl rfl ?_
    (repeat (first | refine WL_nil ?_ | refine Then_normal ?_ | refine W_ret ?_ | refine Then_ret ?_))
    refine BodyM_0 (Body_vals (.cons (.cellA rfl idx2 rfl rfl rfl) (.cons (.cellA rfl idx1 rfl rfl rfl) (.cons (.cell1 rfl idx0 rfl rfl) .nil))) rfl ?_)
    exact UpdE.of (Upd.sub (SubR.none _)) rfl
  | true =>
    rw [hm, if_pos rfl] at hck
    by_cases hs0 : s = []
    · rw [decide_eq_true hs0] at he
      skip
      refine W_region rfl ?_
      refine WL_is (X_loadA rfl rfl (by exact idx4) rfl rfl rfl) rfl rfl rfl ?_
      refine WL_is (X_callv rfl rfl rfl Try.func10 rfl (by assumption)) rfl rfl rfl ?_
      refine WL_is (X_assign rfl rfl) rfl rfl rfl ?_
      (repeat (first | refine WL_nil ?_ | refine Then_normal ?_ | refine W_seq ?_))
      skip
      refine W_region rfl ?_
      refine WL_is (X_move rfl rfl) rfl rfl rfl ?_
      refine WL_is (X_neq_f rfl rfl rfl (by omega)) rfl rfl rfl ?_
      (repeat (first | refine WL_nil ?_ | refine Then_normal ?_ | refine W_seq ?_ | refine W_skip ?_ | refine W_false rfl ?_))
      skip
      refine W_region rfl ?_
      refine WL_is (X_load1 rfl rfl (by exact idx3) rfl rfl) rfl rfl rfl ?_
      refine WL_is (X_neS_c rfl rfl rfl (by assumption)) rfl rfl rfl ?_
      (repeat (first | refine WL_nil ?_ | refine Then_normal ?_ | refine W_seq ?_ | refine W_skip ?_ | refine W_false rfl ?_))
      skip
      refine W_region rfl ?_
      refine WL_is (X_build rfl rfl rfl) rfl rfl rfl ?_
      refine WL_is (X_build rfl rfl rfl) rfl rfl rfl ?_
      refine WL_store rfl rfl rfl (by exact idx2) rfl rfl rfl rfl rfl rfl rfl rfl rfl ?_
      refine WL_store rfl rfl rfl (by exact idx1) rfl rfl rfl rfl rfl rfl rfl rfl rfl ?_
      refine WL_store rfl rfl rfl (by exact idx0) rfl rfl rfl rfl rfl rfl rfl rfl rfl ?_
      (repeat (first | refine WL_nil ?_ | refine Then_normal ?_ | refine W_ret ?_))
      refine BodyM_0 (Body_vals (.cons (.cellA rfl idx2 rfl rfl rfl) (.cons (.cellA rfl idx1 rfl rfl rfl) (.cons (.cell1 rfl idx0 rfl rfl) .nil))) rfl ?_)
      refine UpdE.of (Upd.sub (SubR.none _)) ?_
      rw [hs0, fnd_nil hm]; rfl
    · rw [decide_eq_false hs0] at he
      rw [show fndL s (allL d) = fndL s (slotsL d) from fnd_all hs0 _]
      skip
      refine W_region rfl ?_
      refine WL_is (X_loadA rfl rfl (by exact idx4) rfl rfl rfl) rfl rfl rfl ?_
      refine WL_is (X_callv rfl rfl rfl Try.func10 rfl (by assumption)) rfl rfl rfl ?_
      refine WL_is (X_assign rfl rfl) rfl rfl rfl ?_
      (repeat (first | refine WL_nil ?_ | refine Then_normal ?_ | refine W_seq ?_))
      skip
      refine W_region rfl ?_
      refine WL_is (X_move rfl rfl) rfl rfl rfl ?_
      refine WL_is (X_neq_f rfl rfl rfl (by omega)) rfl rfl rfl ?_
      (repeat (first | refine WL_nil ?_ | refine Then_normal ?_ | refine W_seq ?_ | refine W_skip ?_ | refine W_false rfl ?_))
      skip
      refine W_region rfl ?_
      refine WL_is (X_load1 rfl rfl (by exact idx3) rfl rfl) rfl rfl rfl ?_
      refine WL_is (X_neS_c rfl rfl rfl (by assumption)) rfl rfl rfl ?_
      (repeat (first | refine WL_nil ?_ | refine Then_normal ?_ | refine W_seq ?_ | refine W_true rfl ?_))
      skip
      refine W_region rfl ?_
      refine WL_is (X_loadA rfl rfl (by exact idx4) rfl rfl rfl) rfl rfl rfl ?_
      refine WL_call rfl rfl rfl Try.func30 rfl rfl rfl rfl hs ?_
      rintro _ _ H1 L1 ⟨rfl, lb, rfl, hit⟩
      simp only [List.nil_append]
      (repeat (first | refine WL_nil ?_ | refine Then_normal ?_ | refine W_block ?_))
      refine W_rangeF (X := FX) (N := (slotsL d).length) (args := argS d) (RC := []) (R2 := [blk b2 _ 25]) (fun x => [blk b6 [.int .i64 x.e] 29, blk b5 (encSlo x.x) 34, blk b4 (spoC x.p) 32, blk b3 [.string (mkB s)] 9]) (fun i x => x = ⟨spo0, slo0, 0⟩ ∧ fndL s ((slotsL d).take i) = none) (fun _ c x => c = .ret ∧ fndL s (slotsL d) = some (x.p, x.x) ∧ x.e = 0) ⟨spo0, slo0, 0⟩ rfl Try.func41 rfl (by decide) (fun i => argS_len d i) rfl (fun _ => rfl) (.refl _) ⟨rfl, rfl⟩ (fun h' hl => hit h' hl) ?_ ?_ ?_
      · rintro lp j _ H4 hj L4 ⟨rfl, hno⟩
        have hte : (slotsL d).take (j + 1) = (slotsL d).take j ++ [(slotsL d)[j]] := by rw [List.take_add_one, List.getElem?_eq_getElem hj]; rfl
        have hsp : (slotsL d) = (slotsL d).take j ++ ((slotsL d)[j] :: (slotsL d).drop (j + 1)) := by rw [← List.drop_eq_getElem_cons hj, List.take_append_drop]
        rw [argS_get hj]
        generalize (slotsL d)[j] = q at hte hsp ⊢
        obtain ⟨p, x⟩ := q
        dsimp only at hte hsp ⊢
        have hb : (mkB x.nm == mkB s) = decide (x.nm = s) := mkB_beq _ _
        unfold spoV sloV
        simp only [putL]
        (repeat (first | refine W_seq ?_))
        refine W_region rfl ?_
        (refine WL_alloc rfl rfl rfl rfl rfl rfl ?_; intro b_)
        refine WL_store rfl rfl rfl (by exact idx0) rfl rfl rfl rfl rfl rfl rfl rfl rfl ?_
        (repeat (first | refine WL_nil ?_ | refine Then_normal ?_))
        generalize b_ = q1
        skip
        refine W_region rfl ?_
        (refine WL_alloc rfl rfl rfl rfl rfl rfl ?_; intro b_)
        refine WL_store rfl rfl rfl (by exact idx0) rfl rfl rfl rfl rfl rfl rfl rfl rfl ?_
        (repeat (first | refine WL_nil ?_ | refine Then_normal ?_ | refine W_seq ?_ | refine W_block ?_))
        generalize b_ = q2
        by_cases hx : x.nm = s
        · rw [decide_eq_true hx] at hb
          have hfnd : fndL s (slotsL d) = some (p, x) := by
            rw [hsp]; unfold fndL at hno ⊢
            rw [List.find?_append, hno]; simp [hx]
          generalize fndL s (slotsL d) = fr at hfnd ⊢
          skip
          refine W_region rfl ?_
          refine WL_is (X_fieldAddr rfl rfl rfl (by simp only [Nat.zero_add] <;> rfl)) rfl rfl rfl ?_
          refine WL_is (X_load1 rfl rfl (by exact idx0) rfl rfl) rfl rfl rfl ?_
          refine WL_is (X_load1 rfl rfl (by exact idx5) rfl rfl) rfl rfl rfl ?_
          refine WL_is (X_eqS_c rfl rfl rfl (by assumption)) rfl rfl rfl ?_
          (repeat (first | refine WL_nil ?_ | refine Then_normal ?_ | refine W_seq ?_ | refine W_true rfl ?_))
          skip
          refine W_draw 3 _ [] [blk q2 (encSlo x) 34, blk q1 (spoC p) 32, blk b6 [.int .i64 0] 29, blk b5 (encSlo slo0) 34, blk b3 [.string (mkB s)] 9] rfl rfl rfl (SubE.refl _) rfl ?_
          refine RG_val rfl rfl (fun _ => rfl) (fun _ => X_loadA rfl rfl (by exact idx1) rfl rfl rfl) ?_
          refine RG_val rfl rfl (fun _ => rfl) (fun _ => X_loadA rfl rfl (by exact idx0) rfl rfl rfl) ?_
          refine RG_storeC (t0 := 32) (b := b4) (off := 0) (sz := 3) (c := spoC spo0) rfl (fun _ => rfl) (fun _ => rfl) rfl rfl rfl rfl rfl rfl (fun _ => rfl) rfl ?_
          refine RG_nil ?_
          refine RG_endC ((perm_front 4 rfl)) (fun vs => by simp only [endE, List.cons_append, List.nil_append] <;> rfl) (fun vs => by simp only [endR, List.cons_append, List.nil_append, List.append_nil] <;> rfl) (fun vs h' hf => hf) ?_
          rintro vs h3 hl3 -
          refine WL_store rfl rfl rfl (by exact idx4) rfl rfl rfl rfl rfl rfl rfl rfl rfl ?_
          refine WL_store rfl rfl rfl (by exact idx3) rfl rfl rfl rfl rfl rfl rfl rfl rfl ?_
          (repeat (first | refine WL_nil ?_ | refine Then_normal ?_ | refine W_ret ?_ | refine inBlk_ret ?_))
          refine ⟨⟨p, x, 0⟩, ?_, rfl, hfnd, rfl⟩
          exact SubR_pick 3 rfl (SubR_pick 3 rfl (SubR_pick 0 rfl (SubR_pick 2 rfl (SubR.none _))))
        · rw [decide_eq_false hx] at hb
          skip
          refine W_region rfl ?_
          refine WL_is (X_fieldAddr rfl rfl rfl (by simp only [Nat.zero_add] <;> rfl)) rfl rfl rfl ?_
          refine WL_is (X_load1 rfl rfl (by exact idx0) rfl rfl) rfl rfl rfl ?_
          refine WL_is (X_load1 rfl rfl (by exact idx5) rfl rfl) rfl rfl rfl ?_
          refine WL_is (X_eqS_c rfl rfl rfl (by assumption)) rfl rfl rfl ?_
          (repeat (first | refine WL_nil ?_ | refine Then_normal ?_ | refine W_skip ?_ | refine inBlk_normal ?_ | refine W_false rfl ?_))
          refine ⟨⟨spo0, slo0, 0⟩, .skip _ (.skip _ (SubR.refl _)), rfl, ?_⟩
          rw [hte]; unfold fndL at hno ⊢
          rw [List.find?_append, hno]; simp [hx]
      · rintro bb _ H4 L4 ⟨rfl, hno⟩
        rw [List.take_length] at hno
        simp only [List.cons_append, List.nil_append]
        rw [hno]
        (repeat (first | refine Then_normal ?_ | refine W_seq ?_ | refine inBlk_normal ?_))
        skip
        refine W_region rfl ?_
        refine WL_is (X_build rfl rfl rfl) rfl rfl rfl ?_
        refine WL_is (X_build rfl rfl rfl) rfl rfl rfl ?_
        refine WL_store rfl rfl rfl (by exact idx2) rfl rfl rfl rfl rfl rfl rfl rfl rfl ?_
        refine WL_store rfl rfl rfl (by exact idx1) rfl rfl rfl rfl rfl rfl rfl rfl rfl ?_
        refine WL_store rfl rfl rfl (by exact idx0) rfl rfl rfl rfl rfl rfl rfl rfl rfl ?_
        (repeat (first | refine WL_nil ?_ | refine Then_normal ?_ | refine W_ret ?_))
        refine BodyM_1 (SubR.of_perm (perm_front 4 rfl)) ?_
        refine Body_vals (.cons (.cellA rfl idx2 rfl rfl rfl) (.cons (.cellA rfl idx1 rfl rfl rfl) (.cons (.cell1 rfl idx0 rfl rfl) .nil))) rfl ?_
        exact UpdE.of (Upd.sub (SubR.none _)) rfl
      · rintro bb i c ⟨p, x, e⟩ H4 L4 hi ⟨rfl, hf, he⟩
        dsimp only at he hf
        subst he
        rw [hf]
        simp only [QJ, List.cons_append, List.nil_append]
        (repeat (first | refine Then_ret ?_ | refine inBlk_ret ?_))
        refine BodyM_1 (SubR.of_perm (perm_front 4 rfl)) ?_
        refine Body_vals (.cons (.cellA rfl idx2 rfl rfl rfl) (.cons (.cellA rfl idx1 rfl rfl rfl) (.cons (.cell1 rfl idx0 rfl rfl) .nil))) rfl ?_
        exact UpdE.of (Upd.sub (SubR.none _)) rfl
end Go.Proofs.Ytgpanbmjmpondaa
