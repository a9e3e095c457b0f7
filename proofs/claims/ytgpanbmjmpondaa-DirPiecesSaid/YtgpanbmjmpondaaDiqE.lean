/- Directories: the law that what was put is found until it is taken. -/
import Derived.Test.YtgpanbmjmpondaaDiqD
namespace Go.Proofs.Ytgpanbmjmpondaa
set_option maxRecDepth 4000
open Go Go.Par PH
def evE (e : Spo × Slo) : Value := .agg (encE e).toArray
def q0 : Spo × Slo := (⟨0, 0, -4⟩, slo0)
section
variable {P : Program} {n : Nat} {o : Oper} {E : Env} {D : List Deferred} {R : List SL} {h : PH}
variable {κ β : Type} [DecidableEq κ] {ek : κ → Value} {ev : β → Value}
theorem X_lookC {x y : Operand} {t kt vt : TypeId} {i b : Nat} {L : List (κ × β)} {k : κ} {z c : Value} (hc : ((lkM L k).map ev).getD z = c) (ho : o.op = .lookup t x y false) (ht : P.underlying t = some (.map kt vt)) (KD : KeyD P kt ek) (hz : zeOf P vt = some z)
    (hx : Par.ev E x = some (.map (some b))) (hy : Par.ev E y = some (ek k)) (hi : R[i]? = some (mpL ek ev b L)) : Exec P n o ⟨E, D, R, h⟩ (Is c R h) := by
  subst hc; exact X_lookup ho ht KD hz hx hy hi
end
theorem InvD.more {d : Dr} {n : Nat} (h : InvD d n) : InvD d (n + 1) := ⟨h.may, h.ten, fun k hk => Nat.le_succ_of_le (h.rows k hk), Nat.le_succ_of_le h.cnt⟩
theorem InvD.big {d : Dr} {n : Nat} (h : InvD d n) : maxR d ≤ 1000000 := may_big h.may
theorem InvD.nm {d : Dr} {n : Nat} (h : InvD d n) : nmsOk d := may_nms h.may
theorem keeps_case {d : Dr} {i : Nat} {M : List (Bs × (Spo × Slo))} {t : Stp} {b : Bool} (hin : InvD d i) (hi : i ≤ 200) (hk : knows M d) (hti : 0 ≤ t.ino ∧ t.ino ≤ 255) (hs : (lkM M t.nm).isSome = b) :
    (∃ d', stepR d t = (d', 0) ∧ b = t.tk ∧ checkE t.nm = 0 ∧ InvD d' (i + 1) ∧ (t.tk = true → knows (delM M t.nm) d') ∧
      (t.tk = false → ∃ p, findR d' t.nm = (p, sloT t, 0) ∧ ((0 ≤ p.b ∧ p.b ≤ 3) ∧ (0 ≤ p.c ∧ p.c ≤ 1000000) ∧ (0 ≤ p.s ∧ p.s ≤ 9)) ∧ knows (upM (delM M t.nm) t.nm (p, sloT t)) d')) ∨
    (¬ (stepR d t).2 = 0 ∧ b = t.tk ∧ ¬ checkE t.nm = 0) ∨ (¬ (stepR d t).2 = 0 ∧ ¬ b = t.tk) := by
  cases hl : lkM M t.nm with
  | none =>
    rw [hl] at hs
    have hno := hk.lkn.1 hl
    cases ht : t.tk with
    | true => exact .inr (.inr ⟨step_no hin (.inl ⟨ht, hno⟩), by rw [← hs]; decide⟩)
    | false =>
      by_cases hc : checkE t.nm = 0
      · obtain ⟨d', p, h1, h2, h3, h4, h5⟩ := step_put hin (by omega) ht hti hc hno
        refine .inl ⟨d', h1, hs.symm, hc, h2, (fun h => by cases h), fun _ => ⟨p, h4, all_spot h2.big ((h5 (p, sloT t)).2 (.inl rfl)), ?_⟩⟩
        exact hk.put (e := (p, sloT t)) hl h3
      · exact .inr (.inl ⟨step_no hin (.inr ⟨ht, .inl hc⟩), hs.symm, hc⟩)
  | some e =>
    rw [hl] at hs
    obtain ⟨he, hn⟩ := (hk.lk hin.nd).1 hl
    cases ht : t.tk with
    | true =>
      obtain ⟨d', h1, h2, h3, h4⟩ := step_take hin ht he hn
      refine .inl ⟨d', h1, hs.symm, by rw [← hn]; exact hin.ok he, h2, (fun _ => ?_), fun h => by cases h⟩
      have := hk.take (e := e) (by rw [hn]; exact hl) h3
      rwa [hn] at this
    | false => exact .inr (.inr ⟨step_no hin (.inr ⟨ht, .inr ⟨e, he, hn⟩⟩), by rw [← hs]; simp⟩)
structure KX where
  i : Nat
  d : Dr
  y0 : Value
  y1 : Value
  y2 : Value
  y3 : Value
  L : List (Bs × (Spo × Slo))
  g : PH
structure KY where
  L : List (Bs × (Spo × Slo))
  g : PH
attribute [local irreducible] W WL Does Exec Body Then inBlk RG WR row obj pblk
set_option maxHeartbeats 8000000 in
theorem keeps_law (h : PH) (v : Value) (l : List Stp) (hv : Sl encT 3 h v l) (hio : ∀ t ∈ l, 0 ≤ t.ino ∧ t.ino ≤ 255) : Does Try.prog 5 [v] [] h (Ret fun r _ _ => r = .bool true) := by
  have hlo := long_fn h v l hv
  have hal := fun h => alive_fn h
  obtain ⟨a, c, rfl⟩ := hv.shape
  refine Does_of_W Try.func5 rfl (n := 174) rfl rfl (by simp only [argE] <;> rfl) ?_
  (repeat (first | refine W_seq ?_))
  refine W_region rfl ?_
  refine WL_is (X_assign rfl rfl) rfl rfl rfl ?_
  (repeat (first | refine WL_nil ?_ | refine Then_normal ?_ | refine W_seq ?_))
  skip
  refine W_region rfl ?_
  refine WL_is (X_move rfl rfl) rfl rfl rfl ?_
  refine WL_call rfl rfl rfl Try.func26 rfl rfl rfl rfl hlo ?_
  rintro _ _ H1 L1 ⟨⟨b, rfl, hsh⟩, rfl⟩
  simp only [List.nil_append]
  have go1 := hal H1
  cases b with
  | true =>
    (repeat (first | refine WL_nil ?_ | refine Then_normal ?_ | refine W_seq ?_ | refine W_true rfl ?_))
    skip
    refine W_region rfl ?_
    refine WL_is (X_callv rfl rfl rfl Try.func8 rfl (by assumption)) rfl rfl rfl ?_
    refine WL_is (X_assign rfl rfl) rfl rfl rfl ?_
    (repeat (first | refine WL_nil ?_ | refine Then_normal ?_ | refine W_ret ?_ | refine Then_ret ?_))
    refine Body_end rfl rfl rfl (SubR.none _) ?_
    rfl
  | false =>
    obtain ⟨hl120, hl100⟩ := hsh rfl
    replace hv := hv.mono L1
    (repeat (first | refine WL_nil ?_ | refine Then_normal ?_ | refine W_seq ?_ | refine W_skip ?_ | refine W_false rfl ?_))
    skip
    refine W_region rfl ?_
    refine WL_is (X_build rfl rfl rfl) rfl rfl rfl ?_
    (refine WL_alloc rfl rfl rfl rfl rfl rfl ?_; intro b_)
    refine WL_store rfl rfl rfl (by exact idx0) rfl rfl rfl rfl rfl rfl rfl rfl rfl ?_
    (repeat (first | refine WL_nil ?_ | refine Then_normal ?_ | refine W_seq ?_))
    generalize b_ = b3
    skip
    refine W_region rfl ?_
    refine WL_any (X_makeMap (ek := ekB) (ev := evE) rfl) rfl rfl rfl ?_
    rintro _ _ h' - ⟨mb, rfl, rfl, rfl⟩
    refine WL_is (X_assign rfl rfl) rfl rfl rfl ?_
    (repeat (first | refine WL_nil ?_ | refine Then_normal ?_ | refine W_seq ?_))
    skip
    refine W_region rfl ?_
    refine WL_is (X_assign rfl rfl) rfl rfl rfl ?_
    (repeat (first | refine WL_nil ?_ | refine Then_normal ?_ | refine W_block ?_))
    refine W_loop (X := KX) (L := fun x => ⟨[(5, .int .i64 (x.i : Int)), (4, .map (some mb)), (3, .pointer (some ⟨b3, 0, none⟩)), (0, .slice a l.length c)], [], [mpL ekB evE mb x.L, blk b3 [x.y0, x.y1, x.y2, x.y3] 25], x.g⟩) (p := fun x => le h' x.g ∧ x.i ≤ l.length ∧ DrV x.g (drV x.y0 x.y1 x.y2 x.y3) x.d ∧ InvD x.d x.i ∧ knows x.L x.d) (μ := fun x => l.length - x.i) ⟨0, dr0, .slice none 0 0, .slice none 0 0, .slice none 0 0, .slice none 0 0, [], h'⟩ ⟨(by repeat (first | exact SubE_nil | refine SubE_cons rfl ?_)), rfl, SubR.refl _, rfl⟩ ⟨le.refl _, Nat.zero_le _, DrV.nil, InvD.zero, List.Perm.nil⟩ ?_
    rintro ⟨i, d, y0, y1, y2, y3, M, g⟩ ⟨hg, hi, hd, hin, hk⟩
    dsimp only at hg hi hd hin hk ⊢
    replace hv := hv.mono hg
    by_cases hil : i < l.length
    · have hti := hio _ (List.getElem_mem hil)
      have htn := hl100 _ (List.getElem_mem hil)
      (repeat (first | refine W_seq ?_))
      refine W_region rfl ?_
      refine WL_is (X_move rfl rfl) rfl rfl rfl ?_
      refine WL_is (X_move rfl rfl) rfl rfl rfl ?_
      refine WL_is (X_len_sl rfl rfl rfl (by assumption)) rfl rfl rfl ?_
      refine WL_is (X_lss_t rfl rfl rfl (by omega)) rfl rfl rfl ?_
      (repeat (first | refine WL_nil ?_ | refine Then_normal ?_ | refine W_seq ?_ | refine W_skip ?_ | refine W_block ?_ | refine W_true rfl ?_))
      skip
      refine W_region rfl ?_
      refine WL_is (X_move rfl rfl) rfl rfl rfl ?_
      refine WL_is (X_move rfl rfl) rfl rfl rfl ?_
      (refine WL_index_slN rfl rfl rfl rfl rfl (by assumption) (by omega) rfl rfl rfl ?_; intro p_ hp_)
      refine WL_is (X_loadA_at rfl rfl (by assumption) rfl rfl rfl) rfl rfl rfl ?_
      (refine WL_alloc rfl rfl rfl rfl rfl rfl ?_; intro b_)
      refine WL_store rfl rfl rfl (by exact idx0) rfl rfl rfl rfl rfl rfl rfl rfl rfl ?_
      (repeat (first | refine WL_nil ?_ | refine Then_normal ?_ | refine W_seq ?_))
      generalize b_ = b6
      generalize l[i] = t at hti htn ⊢
      obtain ⟨q, hd_, hq, hs_⟩ : ∃ (q : Spo × Slo) (b : Bool), ((lkM M t.nm).map evE).getD (evE q0) = evE q ∧ (lkM M t.nm).isSome = b := by
        cases lkM M t.nm with
        | none => exact ⟨q0, false, rfl, rfl⟩
        | some e => exact ⟨e, true, rfl, rfl⟩
      have cst := step_fn g _ d t hd hin.big hin.nm (by omega) hti
      have cck := fun h' => checkB_ref h' t.nm (by omega)
      obtain ⟨d', e', hst⟩ : ∃ a b, stepR d t = (a, b) := ⟨_, _, rfl⟩
      have hcase := keeps_case hin (by omega) hk hti hs_
      rw [hst] at cst hcase
      dsimp only at hcase
      unfold drV encT at cst
      skip
      refine W_region rfl ?_
      refine WL_is (X_move rfl rfl) rfl rfl rfl ?_
      refine WL_is (X_fieldAddr rfl rfl rfl (by simp only [Nat.zero_add] <;> rfl)) rfl rfl rfl ?_
      refine WL_is (X_load1 rfl rfl (by exact idx0) rfl rfl) rfl rfl rfl ?_
      refine WL_is (X_lookup_ok (z := evE q0) rfl rfl (keyB rfl) rfl rfl (k := t.nm) rfl idx1) rfl rfl rfl ?_
      rw [hq, hs_]
      unfold evE encE encSlo
      refine WL_is (X_move rfl rfl) rfl rfl rfl ?_
      refine WL_is (X_extract rfl rfl rfl) rfl rfl rfl ?_
      refine WL_is (X_extract rfl rfl rfl) rfl rfl rfl ?_
      (refine WL_alloc rfl rfl rfl rfl rfl rfl ?_; intro b_)
      refine WL_store rfl rfl rfl (by exact idx0) rfl rfl rfl rfl rfl rfl rfl rfl rfl ?_
      refine WL_is (X_assign rfl rfl) rfl rfl rfl ?_
      (repeat (first | refine WL_nil ?_ | refine Then_normal ?_ | refine W_seq ?_))
      skip
      refine W_region rfl ?_
      refine WL_is (X_loadA rfl rfl (by exact idx3) rfl rfl rfl) rfl rfl rfl ?_
      refine WL_is (X_loadA rfl rfl (by exact idx1) rfl rfl rfl) rfl rfl rfl ?_
      refine WL_call rfl rfl rfl Try.func27 rfl rfl rfl rfl cst ?_
      rintro _ _ g2 M2 ⟨⟨w, rfl, hd'⟩, rfl⟩
      simp only [List.nil_append]
      dsimp only at hd'
      have hd0 := hd'
      obtain ⟨z0, z1, z2, z3, rfl, i0, i1, i2, i3⟩ := hd0
      obtain ⟨za0, zc0, rfl⟩ := i0.shape
      obtain ⟨za1, zc1, rfl⟩ := i1.shape
      obtain ⟨za2, zc2, rfl⟩ := i2.shape
      obtain ⟨za3, zc3, rfl⟩ := i3.shape
      unfold drV
      replace hv := hv.mono M2
      replace hd := hd.mono M2
      have ck2 := cck g2
      refine WL_is (X_move rfl rfl) rfl rfl rfl ?_
      refine WL_is (X_extract rfl rfl rfl) rfl rfl rfl ?_
      refine WL_is (X_extract rfl rfl rfl) rfl rfl rfl ?_
      (refine WL_alloc rfl rfl rfl rfl rfl rfl ?_; intro b_)
      refine WL_store rfl rfl rfl (by exact idx0) rfl rfl rfl rfl rfl rfl rfl rfl rfl ?_
      refine WL_is (X_assign rfl rfl) rfl rfl rfl ?_
      (repeat (first | refine WL_nil ?_ | refine Then_normal ?_ | refine W_seq ?_))
      rcases hcase with ⟨d2, he, hht, hce, hin2, htake, hput⟩ | ⟨he, hht, hce⟩ | ⟨he, hht⟩
      · cases he
        skip
        refine W_region rfl ?_
        refine WL_is (X_move rfl rfl) rfl rfl rfl ?_
        refine WL_is (X_eql_t rfl rfl rfl (by omega)) rfl rfl rfl ?_
        refine WL_is (X_move rfl rfl) rfl rfl rfl ?_
        refine WL_is (X_fieldAddr rfl rfl rfl (by simp only [Nat.zero_add] <;> rfl)) rfl rfl rfl ?_
        refine WL_is (X_load1 rfl rfl (by exact idx2) rfl rfl) rfl rfl rfl ?_
        refine WL_is (X_eqB_t rfl rfl rfl rfl (by assumption)) rfl rfl rfl ?_
        refine WL_is (X_move rfl rfl) rfl rfl rfl ?_
        refine WL_is (X_fieldAddr rfl rfl rfl (by simp only [Nat.zero_add] <;> rfl)) rfl rfl rfl ?_
        refine WL_is (X_load1 rfl rfl (by exact idx2) rfl rfl) rfl rfl rfl ?_
        refine WL_is (X_callv rfl rfl rfl Try.func28 rfl (by assumption)) rfl rfl rfl ?_
        refine WL_is (X_eql_t rfl rfl rfl (by omega)) rfl rfl rfl ?_
        refine WL_is (X_pick_t rfl rfl rfl) rfl rfl rfl ?_
        refine WL_is (X_neB rfl rfl rfl rfl) rfl rfl rfl ?_
        (repeat (first | refine WL_nil ?_ | refine Then_normal ?_ | refine W_seq ?_ | refine W_skip ?_ | refine W_false rfl ?_))
        skip
        refine W_region rfl ?_
        refine WL_is (X_move rfl rfl) rfl rfl rfl ?_
        refine WL_is (X_neq_f rfl rfl rfl (by omega)) rfl rfl rfl ?_
        (repeat (first | refine WL_nil ?_ | refine Then_normal ?_ | refine W_seq ?_ | refine W_skip ?_ | refine W_false rfl ?_))
        skip
        refine W_region rfl ?_
        refine WL_is (X_loadA rfl rfl (by exact idx0) rfl rfl rfl) rfl rfl rfl ?_
        refine WL_store rfl rfl rfl (by exact idx4) rfl rfl rfl rfl rfl rfl rfl rfl rfl ?_
        (repeat (first | refine WL_nil ?_ | refine Then_normal ?_ | refine W_seq ?_))
        skip
        refine W_region rfl ?_
        refine WL_is (X_move rfl rfl) rfl rfl rfl ?_
        refine WL_is (X_fieldAddr rfl rfl rfl (by simp only [Nat.zero_add] <;> rfl)) rfl rfl rfl ?_
        refine WL_is (X_load1 rfl rfl (by exact idx2) rfl rfl) rfl rfl rfl ?_
        refine WL_delete (ev := evE) rfl rfl (keyB rfl) rfl (k := t.nm) rfl idx3 rfl rfl ?_
        simp only [List.set_cons_zero, List.set_cons_succ]
        refine WL_nil ?_
        refine Then_normal ?_
        (repeat (first | refine W_seq ?_))
        refine W_region rfl ?_
        refine WL_is (X_fieldAddr rfl rfl rfl (by simp only [Nat.zero_add] <;> rfl)) rfl rfl rfl ?_
        refine WL_is (X_load1 rfl rfl (by exact idx2) rfl rfl) rfl rfl rfl ?_
        refine WL_is (X_not rfl rfl) rfl rfl rfl ?_
        refine WL_nil ?_
        refine Then_normal ?_
        refine W_cutT (X := KY) (L := fun x => ⟨[(5, .int .i64 (i : Int)), (4, .map (some mb)), (3, .pointer (some ⟨b3, 0, none⟩)), (0, .slice a l.length c)], [], [mpL ekB evE mb x.L, blk b3 [.slice za0 d'.b0.length zc0, .slice za1 d'.b1.length zc1, .slice za2 d'.b2.length zc2, .slice za3 d'.b3.length zc3] 25], x.g⟩) (p := fun x => knows x.L d' ∧ le g2 x.g) ?_ ?_
        · cases htk : t.tk with
          | true =>
            (repeat (first | refine Then_normal ?_ | refine W_skip ?_ | refine W_false rfl ?_))
            exact ⟨⟨_, g2⟩, ⟨(by repeat (first | exact SubE_nil | refine SubE_cons rfl ?_)), rfl, .skip _ (.skip _ (.skip _ (SubR.refl _))), rfl⟩, htake htk, le.refl _⟩
          | false =>
            obtain ⟨p, hfi, hpb, hk2⟩ := hput htk
            have cfi := find_fn g2 _ d' t.nm hd' hin2.big hin2.nm
            rw [hfi] at cfi
            unfold findV spoV sloV sloT at cfi
            unfold drV at cfi
            dsimp only at cfi
            have hcs : (mkB t.nm == mkB t.nm) = true := by rw [mkB_beq]; simp
            have hino : ¬ (1 + t.ino % 64) ≠ (1 + t.ino % 64) := fun h => h rfl
            (repeat (first | refine W_seq ?_ | refine W_true rfl ?_))
            refine W_region rfl ?_
            refine WL_is (X_loadA rfl rfl (by exact idx4) rfl rfl rfl) rfl rfl rfl ?_
            refine WL_is (X_fieldAddr rfl rfl rfl (by simp only [Nat.zero_add] <;> rfl)) rfl rfl rfl ?_
            refine WL_is (X_load1 rfl rfl (by exact idx2) rfl rfl) rfl rfl rfl ?_
            refine WL_is (X_callv rfl rfl rfl Try.func11 rfl (by assumption)) rfl rfl rfl ?_
            refine WL_is (X_move rfl rfl) rfl rfl rfl ?_
            refine WL_is (X_extract rfl rfl rfl) rfl rfl rfl ?_
            refine WL_is (X_extract rfl rfl rfl) rfl rfl rfl ?_
            refine WL_is (X_extract rfl rfl rfl) rfl rfl rfl ?_
            (refine WL_alloc rfl rfl rfl rfl rfl rfl ?_; intro b_)
            (refine WL_alloc rfl rfl rfl rfl rfl rfl ?_; intro b_)
            refine WL_store rfl rfl rfl (by exact idx1) rfl rfl rfl rfl rfl rfl rfl rfl rfl ?_
            refine WL_store rfl rfl rfl (by exact idx0) rfl rfl rfl rfl rfl rfl rfl rfl rfl ?_
            refine WL_is (X_assign rfl rfl) rfl rfl rfl ?_
            (repeat (first | refine WL_nil ?_ | refine Then_normal ?_ | refine W_seq ?_))
            skip
            refine W_region rfl ?_
            refine WL_is (X_move rfl rfl) rfl rfl rfl ?_
            refine WL_is (X_neq_f rfl rfl rfl (by omega)) rfl rfl rfl ?_
            refine WL_is (X_move rfl rfl) rfl rfl rfl ?_
            refine WL_is (X_fieldAddr rfl rfl rfl (by simp only [Nat.zero_add] <;> rfl)) rfl rfl rfl ?_
            refine WL_is (X_load1 rfl rfl (by exact idx0) rfl rfl) rfl rfl rfl ?_
            refine WL_is (X_fieldAddr rfl rfl rfl (by simp only [Nat.zero_add] <;> rfl)) rfl rfl rfl ?_
            refine WL_is (X_load1 rfl rfl (by exact idx4) rfl rfl) rfl rfl rfl ?_
            refine WL_is (X_neS_c rfl rfl rfl (by assumption)) rfl rfl rfl ?_
            refine WL_is (X_pick_f rfl rfl rfl) rfl rfl rfl ?_
            refine WL_is (X_move rfl rfl) rfl rfl rfl ?_
            refine WL_is (X_fieldAddr rfl rfl rfl (by simp only [Nat.zero_add] <;> rfl)) rfl rfl rfl ?_
            refine WL_is (X_load1 rfl rfl (by exact idx0) rfl rfl) rfl rfl rfl ?_
            refine WL_is (X_fieldAddr rfl rfl rfl (by simp only [Nat.zero_add] <;> rfl)) rfl rfl rfl ?_
            refine WL_is (X_load1 rfl rfl (by exact idx4) rfl rfl) rfl rfl rfl ?_
            refine WL_is (X_convW rfl rfl rfl rfl (by exact wrap_i64_in (by omega) (by omega))) rfl rfl rfl ?_
            refine WL_is (X_rem rfl rfl rfl (by omega) (by omega)) rfl rfl rfl ?_
            refine WL_is (X_addW rfl rfl rfl (by exact wrap_i64_in (by omega) (by omega))) rfl rfl rfl ?_
            refine WL_is (X_neq_f rfl rfl rfl (by omega)) rfl rfl rfl ?_
            refine WL_is (X_pick_f rfl rfl rfl) rfl rfl rfl ?_
            (repeat (first | refine WL_nil ?_ | refine Then_normal ?_ | refine W_skip ?_ | refine W_false rfl ?_))
            skip
            refine W_region rfl ?_
            refine WL_is (X_move rfl rfl) rfl rfl rfl ?_
            refine WL_is (X_fieldAddr rfl rfl rfl (by simp only [Nat.zero_add] <;> rfl)) rfl rfl rfl ?_
            refine WL_is (X_load1 rfl rfl (by exact idx4) rfl rfl) rfl rfl rfl ?_
            refine WL_is (X_fieldAddr rfl rfl rfl (by simp only [Nat.zero_add] <;> rfl)) rfl rfl rfl ?_
            refine WL_is (X_load1 rfl rfl (by exact idx1) rfl rfl) rfl rfl rfl ?_
            refine WL_is (X_mulW rfl rfl rfl (by exact wrap_i64_in (by omega) (by omega))) rfl rfl rfl ?_
            refine WL_is (X_addW rfl rfl rfl (by exact wrap_i64_in (by omega) (by omega))) rfl rfl rfl ?_
            refine WL_is (X_fieldAddr rfl rfl rfl (by simp only [Nat.zero_add] <;> rfl)) rfl rfl rfl ?_
            refine WL_is (X_load1 rfl rfl (by exact idx1) rfl rfl) rfl rfl rfl ?_
            refine WL_is (X_mulW rfl rfl rfl (by exact wrap_i64_in (by omega) (by omega))) rfl rfl rfl ?_
            refine WL_is (X_addW rfl rfl rfl (by exact wrap_i64_in (by omega) (by omega))) rfl rfl rfl ?_
            refine WL_is (X_fieldAddr rfl rfl rfl (by simp only [Nat.zero_add] <;> rfl)) rfl rfl rfl ?_
            refine WL_is (X_load1 rfl rfl (by exact idx1) rfl rfl) rfl rfl rfl ?_
            refine WL_is (X_addW rfl rfl rfl (by exact wrap_i64_in (by omega) (by omega))) rfl rfl rfl ?_
            refine WL_is (X_loadA rfl rfl (by exact idx0) rfl rfl rfl) rfl rfl rfl ?_
            refine WL_is (X_build rfl rfl rfl) rfl rfl rfl ?_
            refine WL_mapUpdate (ev := evE) rfl rfl (keyB rfl) rfl (k := t.nm) (v := (p, sloT t)) rfl rfl idx5 rfl rfl ?_
            simp only [List.set_cons_zero, List.set_cons_succ]
            refine WL_nil ?_
            (repeat (first | refine Then_normal ?_))
            exact ⟨⟨_, g2⟩, ⟨(by repeat (first | exact SubE_nil | refine SubE_cons rfl ?_)), rfl, .skip _ (.skip _ (.skip _ (.skip _ (.skip _ (SubR.refl _))))), rfl⟩, hk2, le.refl _⟩
        · rintro ⟨N, g3⟩ ⟨hkN, hg3⟩
          dsimp only at hkN hg3 ⊢
          have hd3 := hd'.mono hg3
          replace hv := hv.mono hg3
          have cli := list_fn g3 _ d' 0 1000 hd3 hin2.big hin2.nm
          rw [list_all hin2 (by omega)] at cli
          unfold drV at cli
          (repeat (first | refine W_seq ?_))
          refine W_region rfl ?_
          refine WL_is (X_loadA rfl rfl (by exact idx1) rfl rfl rfl) rfl rfl rfl ?_
          refine WL_call rfl rfl rfl Try.func13 rfl rfl rfl rfl cli ?_
          rintro _ _ g4 M4 ⟨⟨lv, rfl, hlv⟩, rfl⟩
          simp only [List.nil_append]
          dsimp only at hlv
          obtain ⟨la, lc, rfl⟩ := hlv.shape
          have hd4 := hd3.mono M4
          replace hv := hv.mono M4
          have cco := count_fn g4 _ d' hd4 hin2.big
          have cch := check_fn g4 _ d' hd4 hin2.big hin2.nm
          rw [checkD, hin2.may, if_pos rfl] at cch
          unfold drV at cco cch
          have hlen : (N.length : Int) = ((allL d').length : Int) := by rw [hkN.len]
          have hne1 : ¬ ((allL d').length : Int) ≠ (N.length : Int) := by omega
          refine WL_is (X_move rfl rfl) rfl rfl rfl ?_
          refine WL_is (X_extract rfl rfl rfl) rfl rfl rfl ?_
          refine WL_is (X_extract rfl rfl rfl) rfl rfl rfl ?_
          refine WL_is (X_assign rfl rfl) rfl rfl rfl ?_
          refine WL_is (X_assign rfl rfl) rfl rfl rfl ?_
          (repeat (first | refine WL_nil ?_ | refine Then_normal ?_ | refine W_seq ?_))
          skip
          refine W_region rfl ?_
          refine WL_is (X_move rfl rfl) rfl rfl rfl ?_
          refine WL_is (X_neq_f rfl rfl rfl (by omega)) rfl rfl rfl ?_
          refine WL_is (X_move rfl rfl) rfl rfl rfl ?_
          refine WL_is (X_move rfl rfl) rfl rfl rfl ?_
          refine WL_is (X_len_sl rfl rfl rfl (by assumption)) rfl rfl rfl ?_
          refine WL_is (X_move rfl rfl) rfl rfl rfl ?_
          refine WL_is (X_lenMap rfl rfl rfl idx0) rfl rfl rfl ?_
          refine WL_is (X_neq_f rfl rfl rfl (by omega)) rfl rfl rfl ?_
          refine WL_is (X_pick_f rfl rfl rfl) rfl rfl rfl ?_
          refine WL_is (X_move rfl rfl) rfl rfl rfl ?_
          refine WL_is (X_loadA rfl rfl (by exact idx1) rfl rfl rfl) rfl rfl rfl ?_
          refine WL_is (X_callv rfl rfl rfl Try.func14 rfl (by assumption)) rfl rfl rfl ?_
          refine WL_is (X_move rfl rfl) rfl rfl rfl ?_
          refine WL_is (X_lenMap rfl rfl rfl idx0) rfl rfl rfl ?_
          refine WL_is (X_neq_f rfl rfl rfl (by omega)) rfl rfl rfl ?_
          refine WL_is (X_pick_f rfl rfl rfl) rfl rfl rfl ?_
          refine WL_is (X_move rfl rfl) rfl rfl rfl ?_
          refine WL_is (X_loadA rfl rfl (by exact idx1) rfl rfl rfl) rfl rfl rfl ?_
          refine WL_is (X_callv rfl rfl rfl Try.func10 rfl (by assumption)) rfl rfl rfl ?_
          refine WL_is (X_neq_f rfl rfl rfl (by omega)) rfl rfl rfl ?_
          refine WL_is (X_pick_f rfl rfl rfl) rfl rfl rfl ?_
          (repeat (first | refine WL_nil ?_ | refine Then_normal ?_ | refine W_seq ?_ | refine W_skip ?_ | refine W_false rfl ?_))
          skip
          refine W_region rfl ?_
          refine WL_is (X_assign rfl rfl) rfl rfl rfl ?_
          (repeat (first | refine WL_nil ?_ | refine Then_normal ?_ | refine W_block ?_))
          have hlk := fun e (he : e ∈ allL d') => (hkN.lk hin2.nd).2 ⟨he, rfl⟩
          have hso := sorted_all d'
          have hcn := hin2.cnt
          generalize allL d' = A at hlv hlk hso hcn ⊢
          refine W_loop (X := Nat) (L := fun k => ⟨[(16, .int .i64 (k : Int)), (14, .slice la A.length lc), (5, .int .i64 (i : Int)), (4, .map (some mb)), (3, .pointer (some ⟨b3, 0, none⟩)), (0, .slice a l.length c)], [], [mpL ekB evE mb N, blk b3 [.slice za0 d'.b0.length zc0, .slice za1 d'.b1.length zc1, .slice za2 d'.b2.length zc2, .slice za3 d'.b3.length zc3] 25], g4⟩) (p := fun k => k ≤ A.length) (μ := fun k => A.length - k) 0 ⟨(by repeat (first | exact SubE_nil | refine SubE_cons rfl ?_)), rfl, SubR.refl _, rfl⟩ (Nat.zero_le _) ?_
          rintro k hkk
          by_cases hkl : k < A.length
          · have hlkk := hlk _ (List.getElem_mem hkl)
            have hlc : ((lkM N A[k].2.nm).map evE).getD (evE q0) = evE A[k] := by rw [hlkk]; rfl
            (repeat (first | refine W_seq ?_))
            refine W_region rfl ?_
            refine WL_is (X_move rfl rfl) rfl rfl rfl ?_
            refine WL_is (X_move rfl rfl) rfl rfl rfl ?_
            refine WL_is (X_len_sl rfl rfl rfl (by assumption)) rfl rfl rfl ?_
            refine WL_is (X_lss_t rfl rfl rfl (by omega)) rfl rfl rfl ?_
            (repeat (first | refine WL_nil ?_ | refine Then_normal ?_ | refine W_seq ?_ | refine W_skip ?_ | refine W_block ?_ | refine W_true rfl ?_))
            skip
            refine W_draw0 28 rfl rfl rfl rfl ?_
            refine RG_val rfl rfl (fun _ => rfl) (fun _ => X_move rfl rfl) ?_
            refine RG_val rfl rfl (fun _ => rfl) (fun _ => X_move rfl rfl) ?_
            refine RG_val rfl rfl (fun _ => rfl) (fun _ => X_move rfl rfl) ?_
            (refine RG_index_slN rfl rfl rfl (fun _ => rfl) (fun _ => rfl) (by assumption) (by omega) rfl rfl (fun _ => rfl) ?_; intro p_ hp_)
            (refine RG_fieldAddr_at rfl (fun _ => rfl) (by assumption) rfl rfl rfl (fun _ => rfl) ?_; intro p_ hp_)
            (refine RG_fieldAddr_at rfl (fun _ => rfl) (by assumption) rfl rfl rfl (fun _ => rfl) ?_; intro p_ hp_)
            refine RG_val rfl rfl (fun _ => rfl) (fun _ => X_load1_at rfl rfl (by assumption) rfl rfl) ?_
            refine RG_val rfl rfl (fun _ => rfl) (fun _ => X_lookC (z := evE q0) hlc rfl rfl (keyB rfl) rfl rfl (k := A[k].2.nm) rfl idx0) ?_
            refine RG_val rfl rfl (fun _ => rfl) (fun _ => X_move rfl rfl) ?_
            refine RG_val rfl rfl (fun _ => rfl) (fun _ => X_move rfl rfl) ?_
            (refine RG_index_slN rfl rfl rfl (fun _ => rfl) (fun _ => rfl) (by assumption) (by omega) rfl rfl (fun _ => rfl) ?_; intro p_ hp_)
            refine RG_val rfl rfl (fun _ => rfl) (fun _ => X_loadA_at rfl rfl (by assumption) rfl rfl rfl) ?_
            refine RG_val rfl rfl (fun _ => rfl) (fun _ => X_neA 8 heldOk guardOk rfl rfl rfl rfl rfl rfl (eqEnt A[k])) ?_
            by_cases hk0 : k = 0
            · have hk1 : ¬ (k : Int) > 0 := by omega
              refine RG_val rfl rfl (fun _ => rfl) (fun _ => X_move rfl rfl) ?_
              refine RG_val rfl rfl (fun _ => rfl) (fun _ => X_move rfl rfl) ?_
              refine RG_val rfl rfl (fun _ => rfl) (fun _ => X_gtr_f rfl rfl rfl (by omega)) ?_
              refine RG_val rfl rfl (fun _ => rfl) (fun _ => X_move rfl rfl) ?_
              refine RG_off rfl rfl (fun _ => rfl) ?_
              refine RG_off rfl rfl (fun _ => rfl) ?_
              refine RG_off rfl rfl (fun _ => rfl) ?_
              refine RG_off rfl rfl (fun _ => rfl) ?_
              refine RG_off rfl rfl (fun _ => rfl) ?_
              refine RG_off rfl rfl (fun _ => rfl) ?_
              refine RG_off rfl rfl (fun _ => rfl) ?_
              refine RG_off rfl rfl (fun _ => rfl) ?_
              refine RG_off rfl rfl (fun _ => rfl) ?_
              refine RG_off rfl rfl (fun _ => rfl) ?_
              refine RG_off rfl rfl (fun _ => rfl) ?_
              refine RG_nil ?_
              refine RG_endv rfl (fun vs => by simp only [endE, List.cons_append, List.nil_append] <;> rfl) (fun vs => rfl) ?_
              refine WL_off rfl rfl rfl ?_
              refine WL_is (X_pick_f rfl rfl rfl) rfl rfl rfl ?_
              refine WL_is (X_pick_f rfl rfl rfl) rfl rfl rfl ?_
              (repeat (first | refine WL_nil ?_ | refine Then_normal ?_ | refine W_skip ?_ | refine inBlk_normal ?_ | refine W_false rfl ?_))
              skip
              refine W_region rfl ?_
              refine WL_is (X_move rfl rfl) rfl rfl rfl ?_
              refine WL_is (X_addW rfl rfl rfl (by exact wrap_i64_in (by omega) (by omega))) rfl rfl rfl ?_
              refine WL_is (X_assign rfl rfl) rfl rfl rfl ?_
              (repeat (first | refine WL_nil ?_ | refine Then_normal ?_))
              exact ⟨k + 1, ⟨(by repeat (first | exact SubE_nil | refine SubE_cons rfl ?_)), rfl, SubR.refl _, rfl⟩, hkl, by omega⟩
            · have hk1 : (k : Int) > 0 := by omega
              have hkt : ((k : Int) - 1).toNat < A.length := by omega
              have hlt : cookS (A[((k : Int) - 1).toNat]'hkt).1 < cookS A[k].1 := (List.pairwise_iff_getElem.1 hso) _ _ hkt hkl (by omega)
              have hle : ¬ cookS A[k].1 ≤ cookS (A[((k : Int) - 1).toNat]'hkt).1 := by omega
              refine RG_val rfl rfl (fun _ => rfl) (fun _ => X_move rfl rfl) ?_
              refine RG_val rfl rfl (fun _ => rfl) (fun _ => X_move rfl rfl) ?_
              refine RG_val rfl rfl (fun _ => rfl) (fun _ => X_gtr_t rfl rfl rfl (by omega)) ?_
              refine RG_val rfl rfl (fun _ => rfl) (fun _ => X_move rfl rfl) ?_
              refine RG_val rfl rfl (fun _ => rfl) (fun _ => X_move rfl rfl) ?_
              refine RG_val rfl rfl (fun _ => rfl) (fun _ => X_move rfl rfl) ?_
              (refine RG_index_slN rfl rfl rfl (fun _ => rfl) (fun _ => rfl) (by assumption) (by omega) rfl rfl (fun _ => rfl) ?_; intro p_ hp_)
              (refine RG_fieldAddr_at rfl (fun _ => rfl) (by assumption) rfl rfl rfl (fun _ => rfl) ?_; intro p_ hp_)
              refine RG_val rfl rfl (fun _ => rfl) (fun _ => X_load1_at rfl rfl (by assumption) rfl rfl) ?_
              refine RG_val rfl rfl (fun _ => rfl) (fun _ => X_move rfl rfl) ?_
              refine RG_val rfl rfl (fun _ => rfl) (fun _ => X_move rfl rfl) ?_
              refine RG_val rfl rfl (fun _ => rfl) (fun _ => X_subW rfl rfl rfl (by exact wrap_i64_in (by omega) (by omega))) ?_
              (refine RG_index_sl rfl rfl rfl (fun _ => rfl) (fun _ => rfl) (by assumption) (by omega) (by omega) rfl rfl (fun _ => rfl) ?_; intro p_ hp_)
              (refine RG_fieldAddr_at rfl (fun _ => rfl) (by assumption) rfl rfl rfl (fun _ => rfl) ?_; intro p_ hp_)
              refine RG_val rfl rfl (fun _ => rfl) (fun _ => X_load1_at rfl rfl (by assumption) rfl rfl) ?_
              refine RG_nil ?_
              refine RG_endv rfl (fun vs => by simp only [endE, List.cons_append, List.nil_append] <;> rfl) (fun vs => rfl) ?_
              refine WL_is (X_leq_f rfl rfl rfl (by omega)) rfl rfl rfl ?_
              refine WL_is (X_pick_t rfl rfl rfl) rfl rfl rfl ?_
              refine WL_is (X_pick_f rfl rfl rfl) rfl rfl rfl ?_
              (repeat (first | refine WL_nil ?_ | refine Then_normal ?_ | refine W_skip ?_ | refine inBlk_normal ?_ | refine W_false rfl ?_))
              skip
              refine W_region rfl ?_
              refine WL_is (X_move rfl rfl) rfl rfl rfl ?_
              refine WL_is (X_addW rfl rfl rfl (by exact wrap_i64_in (by omega) (by omega))) rfl rfl rfl ?_
              refine WL_is (X_assign rfl rfl) rfl rfl rfl ?_
              (repeat (first | refine WL_nil ?_ | refine Then_normal ?_))
              exact ⟨k + 1, ⟨(by repeat (first | exact SubE_nil | refine SubE_cons rfl ?_)), rfl, SubR.refl _, rfl⟩, hkl, by omega⟩
          · (repeat (first | refine W_seq ?_))
            refine W_region rfl ?_
            refine WL_is (X_move rfl rfl) rfl rfl rfl ?_
            refine WL_is (X_move rfl rfl) rfl rfl rfl ?_
            refine WL_is (X_len_sl rfl rfl rfl (by assumption)) rfl rfl rfl ?_
            refine WL_is (X_lss_f rfl rfl rfl (by omega)) rfl rfl rfl ?_
            (repeat (first | refine WL_nil ?_ | refine Then_normal ?_ | refine W_exit ?_ | refine Then_exit ?_ | refine inBlk_normal ?_ | refine inBlk_here ?_ | refine W_false rfl ?_))
            skip
            refine W_region rfl ?_
            refine WL_is (X_move rfl rfl) rfl rfl rfl ?_
            refine WL_is (X_addW rfl rfl rfl (by exact wrap_i64_in (by omega) (by omega))) rfl rfl rfl ?_
            refine WL_is (X_assign rfl rfl) rfl rfl rfl ?_
            (repeat (first | refine WL_nil ?_ | refine Then_normal ?_))
            exact ⟨⟨i + 1, d', _, _, _, _, N, g4⟩, ⟨(by repeat (first | exact SubE_nil | refine SubE_cons rfl ?_)), rfl, SubR.refl _, rfl⟩, ⟨((hg.trans M2).trans hg3).trans M4, hil, hd4, hin2, hkN⟩, by dsimp only; omega⟩
      · skip
        refine W_region rfl ?_
        refine WL_is (X_move rfl rfl) rfl rfl rfl ?_
        refine WL_is (X_eql_f rfl rfl rfl (by omega)) rfl rfl rfl ?_
        refine WL_is (X_move rfl rfl) rfl rfl rfl ?_
        refine WL_is (X_fieldAddr rfl rfl rfl (by simp only [Nat.zero_add] <;> rfl)) rfl rfl rfl ?_
        refine WL_is (X_load1 rfl rfl (by exact idx2) rfl rfl) rfl rfl rfl ?_
        refine WL_is (X_eqB_t rfl rfl rfl rfl (by assumption)) rfl rfl rfl ?_
        refine WL_is (X_move rfl rfl) rfl rfl rfl ?_
        refine WL_is (X_fieldAddr rfl rfl rfl (by simp only [Nat.zero_add] <;> rfl)) rfl rfl rfl ?_
        refine WL_is (X_load1 rfl rfl (by exact idx2) rfl rfl) rfl rfl rfl ?_
        refine WL_is (X_callv rfl rfl rfl Try.func28 rfl (by assumption)) rfl rfl rfl ?_
        refine WL_is (X_eql_f rfl rfl rfl (by omega)) rfl rfl rfl ?_
        refine WL_is (X_pick_t rfl rfl rfl) rfl rfl rfl ?_
        refine WL_is (X_neB rfl rfl rfl rfl) rfl rfl rfl ?_
        (repeat (first | refine WL_nil ?_ | refine Then_normal ?_ | refine W_seq ?_ | refine W_skip ?_ | refine W_false rfl ?_))
        skip
        refine W_region rfl ?_
        refine WL_is (X_move rfl rfl) rfl rfl rfl ?_
        refine WL_is (X_neq_t rfl rfl rfl (by omega)) rfl rfl rfl ?_
        (repeat (first | refine WL_nil ?_ | refine Then_normal ?_ | refine W_exit ?_ | refine Then_exit ?_ | refine inBlk_here ?_ | refine W_true rfl ?_))
        skip
        refine W_region rfl ?_
        refine WL_is (X_move rfl rfl) rfl rfl rfl ?_
        refine WL_is (X_addW rfl rfl rfl (by exact wrap_i64_in (by omega) (by omega))) rfl rfl rfl ?_
        refine WL_is (X_assign rfl rfl) rfl rfl rfl ?_
        (repeat (first | refine WL_nil ?_ | refine Then_normal ?_))
        exact ⟨⟨i + 1, d, y0, y1, y2, y3, M, g2⟩, ⟨(by repeat (first | exact SubE_nil | refine SubE_cons rfl ?_)), rfl, .skip _ (.skip _ (.skip _ (SubR.refl _))), rfl⟩, ⟨hg.trans M2, hil, hd, hin.more, hk⟩, by dsimp only; omega⟩
      · skip
        refine W_region rfl ?_
        refine WL_is (X_move rfl rfl) rfl rfl rfl ?_
        refine WL_is (X_eql_f rfl rfl rfl (by omega)) rfl rfl rfl ?_
        refine WL_is (X_move rfl rfl) rfl rfl rfl ?_
        refine WL_is (X_fieldAddr rfl rfl rfl (by simp only [Nat.zero_add] <;> rfl)) rfl rfl rfl ?_
        refine WL_is (X_load1 rfl rfl (by exact idx2) rfl rfl) rfl rfl rfl ?_
        refine WL_is (X_eqB_f rfl rfl rfl rfl (by assumption)) rfl rfl rfl ?_
        refine WL_is (X_move rfl rfl) rfl rfl rfl ?_
        refine WL_off rfl rfl rfl ?_
        refine WL_off rfl rfl rfl ?_
        refine WL_off rfl rfl rfl ?_
        refine WL_off rfl rfl rfl ?_
        refine WL_is (X_pick_f rfl rfl rfl) rfl rfl rfl ?_
        refine WL_is (X_neB rfl rfl rfl rfl) rfl rfl rfl ?_
        (repeat (first | refine WL_nil ?_ | refine Then_normal ?_ | refine W_seq ?_ | refine W_skip ?_ | refine W_false rfl ?_))
        skip
        refine W_region rfl ?_
        refine WL_is (X_move rfl rfl) rfl rfl rfl ?_
        refine WL_is (X_neq_t rfl rfl rfl (by omega)) rfl rfl rfl ?_
        (repeat (first | refine WL_nil ?_ | refine Then_normal ?_ | refine W_exit ?_ | refine Then_exit ?_ | refine inBlk_here ?_ | refine W_true rfl ?_))
        skip
        refine W_region rfl ?_
        refine WL_is (X_move rfl rfl) rfl rfl rfl ?_
        refine WL_is (X_addW rfl rfl rfl (by exact wrap_i64_in (by omega) (by omega))) rfl rfl rfl ?_
        refine WL_is (X_assign rfl rfl) rfl rfl rfl ?_
        (repeat (first | refine WL_nil ?_ | refine Then_normal ?_))
        exact ⟨⟨i + 1, d, y0, y1, y2, y3, M, g2⟩, ⟨(by repeat (first | exact SubE_nil | refine SubE_cons rfl ?_)), rfl, .skip _ (.skip _ (.skip _ (SubR.refl _))), rfl⟩, ⟨hg.trans M2, hil, hd, hin.more, hk⟩, by dsimp only; omega⟩
    · have hall := hal g
      (repeat (first | refine W_seq ?_))
      refine W_region rfl ?_
      refine WL_is (X_move rfl rfl) rfl rfl rfl ?_
      refine WL_is (X_move rfl rfl) rfl rfl rfl ?_
      refine WL_is (X_len_sl rfl rfl rfl (by assumption)) rfl rfl rfl ?_
      refine WL_is (X_lss_f rfl rfl rfl (by omega)) rfl rfl rfl ?_
      (repeat (first | refine WL_nil ?_ | refine Then_normal ?_ | refine W_seq ?_ | refine W_exit ?_ | refine Then_exit ?_ | refine inBlk_here ?_ | refine W_false rfl ?_))
      skip
      refine W_region rfl ?_
      refine WL_is (X_callv rfl rfl rfl Try.func8 rfl (by assumption)) rfl rfl rfl ?_
      refine WL_is (X_assign rfl rfl) rfl rfl rfl ?_
      (repeat (first | refine WL_nil ?_ | refine Then_normal ?_ | refine W_ret ?_))
      refine Body_end rfl rfl rfl (SubR.none _) ?_
      rfl
end Go.Proofs.Ytgpanbmjmpondaa
