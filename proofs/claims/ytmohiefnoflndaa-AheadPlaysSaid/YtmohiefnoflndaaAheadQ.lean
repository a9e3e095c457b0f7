/- Words ahead: the program and the document, whatever is put, done, loaded. -/
import Derived.Test.YtmohiefnoflndaaAheadP
import Derived.Test.YtmohiefnoflndaaAheadI
namespace Go.Par
open Go PH
/-- Some of what is owned is lent for a call, some is given. -/
theorem Does.lend {P : Program} {f : FuncId} {args : List Value} {R1 R : List SL} {h : PH} {A : Value → List SL → Prop}
    (H : ∀ g, stars R g → le g (un h g) → Does P f args R1 (un h g) (Ret fun v R' _ => A v R')) : Does P f args (R1 ++ R) h (Ret fun v R' _ => ∃ R2, R' = R2 ++ R ∧ A v R2) := fun f' w hf hs => by
  obtain ⟨a, g0, k, ek, hr0, hgf0, hkf, hgk, hg0, hk, hw⟩ := hs
  obtain ⟨g1, g, e0, hd0, hr1, hr⟩ := stars_append.1 hr0
  subst e0
  have hgf1 := dj_un_left.1 hgf0
  have hgf := hgf1.2
  have hg : inW g w := inW_le (le_un_right hd0) hg0
  have hg1 : inW g1 w := inW_le (le_un_left _ _) hg0
  have hgh : dj h g := fun b => by
    rcases hgf b with h1 | h1
    · exact .inr h1
    · refine .inl ?_
      cases hb : h b with
      | none => rfl
      | some o => rw [hf b o hb] at h1; cases h1
  have hdj : dj f' g := hgf.symm
  have hle : le (un h g) (un f' g) := fun b o hb => by
    simp only [un] at hb ⊢
    cases hx : h b with
    | some o' => rw [hx] at hb; rw [hf b o' hx]; exact hb
    | none =>
      rw [hx] at hb
      have hb : g b = some o := hb
      rcases hgf b with h1 | h1
      · rw [h1] at hb; cases hb
      · rw [h1]; exact hb
  have hst : St w (un h g) (un f' g) R1 (un h g) w :=
    ⟨⟨rfl, rfl, rfl, Nat.le_refl _⟩, g1, none_, (un_none_right _).symm, hr1, dj_un_right.2 ⟨hgf1.1, hd0⟩, dj_none_left _, (dj_none_left _).symm, hg1, fun b o h => by simp [none_] at h, inW_un hw hg⟩
  refine (H g hr (le_un_right hgh) (un f' g) w hle hst).mono ?_
  rintro e w' ⟨he, R', h', hle', ⟨a', g2, k2, rfl, hr2, hd1, hd2, hd3, hi1, hi2, hi3⟩, hK⟩
  have e1 := dj_un_right.1 hd1
  have e2 := dj_un_right.1 hd2
  have hwf : inW f' w' := inW_le (le_un_left _ _) hi3
  have hwg : inW g w' := inW_le (le_un_right hdj) hi3
  refine ⟨he, R' ++ R, un h k2, le_un_left _ _, ⟨a', un g2 g, k2, rfl, stars_app hr2 hr e1.2, dj_un_left.2 ⟨e1.1, hgf⟩, e2.1, dj_un_left.2 ⟨hd3, e2.2.symm⟩, inW_un hi1 hwg, hi2, hwf⟩, ?_⟩
  cases e with
  | returned v => exact ⟨R', rfl, hK⟩
  | panicked c => exact hK.elim
  | outgrown => exact hK.elim
end Go.Par
namespace Go.Proofs.Ytmohiefnoflndaa
set_option maxRecDepth 4000
open Go Go.Par PH Go.ChangeShapes Go.WideShapes Go.ChangeAt Go.RowKit
attribute [local irreducible] W WL Does Exec Body Then inBlk RG WR row obj pblk
def errN (l : List (Int × Int)) : Int := if negL l = true then 2 else 0
def putN (T l : List (Int × Int)) : List (Int × Int) := if negL l = true then T else putT T l
def insN (L l : List (Int × Int)) : List (Int × Int) := if negL l = true then L else insL L l
theorem InvP.putN {T L : List (Int × Int)} (v : InvP T L) (l : List (Int × Int)) : InvP (putN T l) (insN L l) := by
  unfold Go.Proofs.Ytmohiefnoflndaa.putN insN; split
  · exact v
  · exact v.puts l
theorem put_lent (h : PH) (ab mb : Nat) (T L : List (Int × Int)) (v : Value) (hl : L.length ≤ 1000000) : Does Try.prog 10 [ptB ab, v] (tabR ab mb T ++ [rowL encR v 38 2 L]) h (Ret fun r R' _ => r = .int .i64 (errN L) ∧ SubR R' (tabR ab mb (putN T L) ++ [rowL encR v 38 2 L])) := by
  refine (Does.lend (A := fun r R2 => r = .int .i64 (errN L) ∧ R2 = tabR ab mb (putN T L)) fun g hg hle => ?_).wkn fun v R' h' _ ⟨R2, e1, e2, e3⟩ => ⟨e2, by rw [e1, e3]; exact SubR.refl _⟩
  obtain ⟨x, y, rfl, hd, hx, hy⟩ := hg
  exact (put_fn _ ab mb T L v (Sl_of_row hx ((le_un_left _ _).trans hle) (lenR _)) (by omega)).wkn fun _ _ _ _ e => ⟨e.1, e.2.1⟩
theorem same_lent1 (h : PH) (L : List (Int × Int)) (v u : Value) (hu : Sl encR 2 h u L) (hl : L.length ≤ 1000000) : Does Try.prog 12 [v, u] [rowL encR v 38 2 L] h (Ret fun r R' _ => r = .bool true ∧ SubR R' [rowL encR v 38 2 L]) := by
  refine (Does.borrow (A := fun r _ => r = .bool true) fun g hg hle => ?_).wkn fun v R' h' _ ⟨R2, e1, e2⟩ => ⟨e2, by rw [e1]; exact .cons _ (SubR.none _)⟩
  obtain ⟨x, y, rfl, hd, hx, hy⟩ := hg
  have := same_fn _ L L v u (Sl_of_row hx ((le_un_left _ _).trans hle) (lenR _)) (hu.mono (le_un_left _ _)) hl hl
  rw [decide_eq_true rfl] at this
  exact this
theorem same_lent2 (h : PH) (L : List (Int × Int)) (v u : Value) (hv : Sl encR 2 h v L) (hl : L.length ≤ 1000000) : Does Try.prog 12 [v, u] [rowL encR u 38 2 L] h (Ret fun r R' _ => r = .bool true ∧ SubR R' [rowL encR u 38 2 L]) := by
  refine (Does.borrow (A := fun r _ => r = .bool true) fun g hg hle => ?_).wkn fun v R' h' _ ⟨R2, e1, e2⟩ => ⟨e2, by rw [e1]; exact .cons _ (SubR.none _)⟩
  obtain ⟨x, y, rfl, hd, hx, hy⟩ := hg
  have := same_fn _ L L v u (hv.mono (le_un_left _ _)) (Sl_of_row hx ((le_un_left _ _).trans hle) (lenR _)) hl hl
  rw [decide_eq_true rfl] at this
  exact this
theorem load_refd (h : PH) (rb : Nat) (T M : List (Int × Int)) (a w : Int) (hA : InvP T M) (hL : M.length ≤ 1000000000) : Does Try.prog 16 [.pointer (some ⟨rb, 0, none⟩), .int .i64 a, .int .u64 w] [refS rb M] h (Ret fun r R' _ => r = .int .u64 ((lkM T a).getD w) ∧ SubR R' ([] ++ [refS rb M])) :=
  (load_ref h rb M a w hL).wkn fun v R' h' _ ⟨e1, e2⟩ => ⟨by rw [e1, hA.lk], by rw [e2]; exact SubR.refl _⟩
theorem list_rd (h : PH) (ab mb : Nat) (T L : List (Int × Int)) (hT : T.length ≤ 1000000) (hq : L.Perm T) (hs : sortedS L) : Does Try.prog 18 [ptB ab] (tabR ab mb T) h (Ret fun r R' h' => Sl encR 2 h' r L ∧ SubR R' ([] ++ tabR ab mb T)) :=
  (list_one h ab mb T L hT hq hs).wkn fun v R' h' _ ⟨e1, e2⟩ => ⟨e2, by rw [e1]; exact SubR.refl _⟩
def errD (T : List (Int × Int)) (a : Int) : Int := if (lkM T a).isSome = true then 0 else 3
def delN (T : List (Int × Int)) (a : Int) : List (Int × Int) := if (lkM T a).isSome = true then delM T a else T
theorem done_rd (h : PH) (ab mb : Nat) (T : List (Int × Int)) (a : Int) : Does Try.prog 13 [ptB ab, .int .i64 a] (tabR ab mb T ++ []) h (Ret fun r R' _ => r = .int .i64 (errD T a) ∧ SubR R' (tabR ab mb (delN T a) ++ [])) :=
  (done_fn h ab mb T a).wkn fun v R' h' _ ⟨e1, e2, _⟩ => ⟨e1, by rw [e2]; exact SubR.refl _⟩
theorem done_refd (h : PH) (rb : Nat) (T M : List (Int × Int)) (a : Int) (hA : InvP T M) (hL : M.length ≤ 1000000000) : Does Try.prog 14 [.pointer (some ⟨rb, 0, none⟩), .int .i64 a] ([refS rb M] ++ []) h (Ret fun r R' _ => r = .int .i64 (errD T a) ∧ SubR R' ([refS rb (outR M a)] ++ [])) :=
  (done_ref h rb M a hL).wkn fun v R' h' _ ⟨e1, e2⟩ => ⟨by rw [e1, ← hA.lk]; rfl, by rw [e2]; exact SubR.refl _⟩
theorem puts_refd (h : PH) (rb : Nat) (M l : List (Int × Int)) (v : Value) (hv : Sl encR 2 h v l) (hl : M.length + l.length ≤ 1000000000) : Does Try.prog 11 [.pointer (some ⟨rb, 0, none⟩), v] ([refS rb M] ++ []) h (Ret fun r R' _ => r = .int .i64 (errN l) ∧ SubR R' ([refS rb (insN M l)] ++ [])) :=
  (puts_ref h rb M l v hv hl).wkn fun v R' h' _ ⟨e1, e2⟩ => ⟨e1, by rw [e2]; exact SubR.refl _⟩
theorem insN_len (M l : List (Int × Int)) : (insN M l).length ≤ M.length + l.length := by
  unfold insN; split
  · omega
  · exact insL_len M l
theorem outR_le (M : List (Int × Int)) (a : Int) : (outR M a).length ≤ M.length := List.length_filter_le ..
set_option maxHeartbeats 8000000 in
theorem plays_law (h : PH) (v : Value) (l : List Stq) (hv : Sl encQ 4 h v l) (hok : ∀ s ∈ l, s.Ok h) : Does Try.prog 3 [v] [] h (Ret fun r _ _ => r = .bool true) := by
  have hhe := heavy_fn h v l hv hok
  refine Does_of_W Try.func3 rfl (n := 106) rfl rfl (by simp only [argE] <;> rfl) ?_
  cases hb : heavyL l with
  | true =>
    rw [hb] at hhe
    have ha := alive_fn h
    (repeat (first | refine W_seq ?_))
    skip
    refine W_region rfl ?_
    refine WL_is (X_assign rfl rfl) rfl rfl rfl ?_
    (repeat (first | refine WL_nil ?_ | refine Then_normal ?_ | refine W_seq ?_))
    skip
    refine W_region rfl ?_
    refine WL_is (X_move rfl rfl) rfl rfl rfl ?_
    refine WL_is (X_callv rfl rfl rfl Try.func7 rfl (by assumption)) rfl rfl rfl ?_
    (repeat (first | refine WL_nil ?_ | refine Then_normal ?_ | refine W_seq ?_ | refine W_true rfl ?_))
    skip
    refine W_region rfl ?_
    refine WL_is (X_callv rfl rfl rfl Try.func8 rfl (by assumption)) rfl rfl rfl ?_
    refine WL_is (X_assign rfl rfl) rfl rfl rfl ?_
    (repeat (first | refine WL_nil ?_ | refine Then_normal ?_ | refine W_ret ?_ | refine Then_ret ?_))
    refine Body_end rfl rfl rfl (SubR.none _) ?_
    rfl
  | false =>
    rw [hb] at hhe
    obtain ⟨hl150, hl2000⟩ := light hb
    (repeat (first | refine W_seq ?_))
    skip
    refine W_region rfl ?_
    refine WL_is (X_assign rfl rfl) rfl rfl rfl ?_
    (repeat (first | refine WL_nil ?_ | refine Then_normal ?_ | refine W_seq ?_))
    skip
    refine W_region rfl ?_
    refine WL_is (X_move rfl rfl) rfl rfl rfl ?_
    refine WL_is (X_callv rfl rfl rfl Try.func7 rfl (by assumption)) rfl rfl rfl ?_
    (repeat (first | refine WL_nil ?_ | refine Then_normal ?_ | refine W_seq ?_ | refine W_skip ?_ | refine W_false rfl ?_))
    skip
    refine W_region rfl ?_
    refine WL_callR [] [] rfl rfl rfl Try.func9 rfl rfl rfl rfl (.refl _) (new_fn h) ?_
    rintro _ _ h - ⟨ab, mb, rfl, rfl, rfl⟩
    unfold ptB tabR
    refine WL_is (X_assign rfl rfl) rfl rfl rfl ?_
    (repeat (first | refine WL_nil ?_ | refine Then_normal ?_ | refine W_seq ?_))
    skip
    refine W_region rfl ?_
    refine WL_is (X_build rfl rfl rfl) rfl rfl rfl ?_
    (refine WL_box rfl rfl rfl rfl rfl rfl ?_; intro b_)
    refine WL_is (X_assign rfl rfl) rfl rfl rfl ?_
    (repeat (first | refine WL_nil ?_ | refine Then_normal ?_ | refine W_seq ?_))
    generalize b_ = rb
    skip
    refine W_region rfl ?_
    refine WL_is (X_move rfl rfl) rfl rfl rfl ?_
    refine WL_is (X_eqPn_f rfl rfl rfl rfl) rfl rfl rfl ?_
    (repeat (first | refine WL_nil ?_ | refine Then_normal ?_ | refine W_seq ?_ | refine W_skip ?_ | refine W_false rfl ?_))
    skip
    refine W_region rfl ?_
    refine WL_is (X_assign rfl rfl) rfl rfl rfl ?_
    (repeat (first | refine WL_nil ?_ | refine Then_normal ?_ | refine W_block ?_))
    refine W_upd (Upd.nilrow (e := 38) (sz := 2)) ?_
    refine W_upd (Upd.sub (R' := [blk rb [.slice none 0 0] 30, rowL encR (.slice none 0 0) 38 2 [], blk ab [.map (some mb)] 52, mpB ekI evW mb []]) (SubR.of_perm (List.Perm.swap _ _ _))) ?_
    refine W_upd Upd.refC ?_
    refine W_loop (X := (Nat × List (Int × Int) × List (Int × Int)) × PH) (L := fun x => ⟨[(5, .int .i64 (x.1.1 : Int)), (3, .pointer (some ⟨ab, 0, none⟩)), (4, .pointer (some ⟨rb, 0, none⟩)), (0, v)], [], refS rb x.1.2.2 :: tabR ab mb x.1.2.1, x.2⟩) (p := fun x => x.1.1 ≤ l.length ∧ InvP x.1.2.1 x.1.2.2 ∧ x.1.2.2.length ≤ 2000 * x.1.1 ∧ le h x.2) (μ := fun x => l.length - x.1.1) ((0, [], []), h) ⟨(by repeat (first | exact SubE_nil | refine SubE_cons rfl ?_)), rfl, SubR.refl _, rfl⟩ ⟨Nat.zero_le _, InvP.zero, by simp, le.refl _⟩ ?_
    rintro ⟨⟨i, T, M⟩, h2⟩ ⟨hi, hA, hM, hle⟩
    dsimp only at hi hA hM hle ⊢
    have hv2 := hv.mono hle
    simp only [tabR]
    by_cases hil : i < l.length
    · have hs := (hok l[i] (List.getElem_mem _)).mono hle
      have h20 := hl2000 l[i] (List.getElem_mem _)
      rcases hsd : l[i] with ⟨d, vv, L, sa, sw⟩
      rw [hsd] at hs h20
      obtain ⟨hsl, -, hal, hsa⟩ := hs
      dsimp only at h20 hsl hal hsa
      obtain ⟨xa, xc, rfl⟩ := hsl.shape
      (repeat (first | refine W_seq ?_))
      refine W_region rfl ?_
      refine WL_is (X_move rfl rfl) rfl rfl rfl ?_
      refine WL_is (X_move rfl rfl) rfl rfl rfl ?_
      refine WL_is (X_len_sl rfl rfl rfl (by assumption)) rfl rfl rfl ?_
      refine WL_is (X_lss_t rfl rfl rfl (by omega)) rfl rfl rfl ?_
      (repeat (first | refine WL_nil ?_ | refine Then_normal ?_ | refine W_seq ?_ | refine W_skip ?_ | refine W_block ?_ | refine W_true rfl ?_))
      skip
      refine W_region rfl ?_
      refine WL_is (X_move rfl rfl) rfl rfl rfl ?_
      refine WL_is (X_move rfl rfl) rfl rfl rfl ?_
      (refine WL_index_slN rfl rfl rfl rfl rfl (by assumption) (by omega) rfl rfl rfl ?_; intro p_ hp_)
      rw [hsd] at hp_
      unfold encQ at hp_
      dsimp only at hp_
      refine WL_is (X_loadA_at rfl rfl (by assumption) rfl rfl rfl) rfl rfl rfl ?_
      (refine WL_alloc rfl rfl rfl rfl rfl rfl ?_; intro b_)
      refine WL_store rfl rfl rfl (by exact idx0) rfl rfl rfl rfl rfl rfl rfl rfl rfl ?_
      (repeat (first | refine WL_nil ?_ | refine Then_normal ?_ | refine W_seq ?_))
      generalize b_ = bx
      by_cases hd : d = 0
      · skip
        refine W_region rfl ?_
        refine WL_is (X_fieldAddr rfl rfl rfl (by simp only [Nat.zero_add] <;> rfl)) rfl rfl rfl ?_
        refine WL_is (X_load1 rfl rfl (by exact idx0) rfl rfl) rfl rfl rfl ?_
        (repeat (first | refine WL_nil ?_ | refine Then_normal ?_ | refine W_seq ?_ | refine W_block ?_))
        skip
        refine W_region rfl ?_
        refine WL_is (X_eql_t rfl rfl rfl (by omega)) rfl rfl rfl ?_
        refine WL_is (X_assign rfl rfl) rfl rfl rfl ?_
        (repeat (first | refine WL_nil ?_ | refine Then_normal ?_ | refine W_seq ?_ | refine W_true rfl ?_))
        skip
        refine W_region rfl ?_
        refine WL_is (X_fieldAddr rfl rfl rfl (by simp only [Nat.zero_add] <;> rfl)) rfl rfl rfl ?_
        refine WL_is (X_load1 rfl rfl (by exact idx0) rfl rfl) rfl rfl rfl ?_
        refine WL_append_nil (enc := encR) (L' := L) rfl rfl rfl elemR rfl (Src.sl hsl) (flatR _) (by omega) (by omega) rfl rfl rfl ?_
        intro ov
        refine WL_updE (UpdE.shapeL 0 rfl) ?_
        rintro _ h2 - ⟨rfl, rfl, oa, oc, rfl⟩
        refine WL_is (X_assign rfl rfl) rfl rfl rfl ?_
        (repeat (first | refine WL_nil ?_ | refine Then_normal ?_ | refine W_seq ?_))
        have hpu := fun h' => put_lent h' ab mb T L (.slice oa L.length oc) (by omega)
        have hpr := fun (h' : PH) (hl : le h2 h') => puts_refd h' rb M L _ (hsl.mono hl) (by omega)
        have hsm := fun (h' : PH) (hl : le h2 h') => same_lent1 h' L (.slice oa L.length oc) _ (hsl.mono hl) (by omega)
        skip
        refine W_draw 15 _ [] [rowL encR (.slice oa L.length oc) 38 2 L, blk bx [.int .i64 d, .slice xa L.length xc, .int .i64 sa, .int .u64 sw] 33] rfl rfl rfl (SubE.refl _) rfl ?_
        refine RG_val rfl rfl (fun _ => rfl) (fun _ => X_move rfl rfl) ?_
        refine RG_val rfl rfl (fun _ => rfl) (fun _ => X_move rfl rfl) ?_
        refine RG_call (.opq (fun u _ => u = .int .i64 (errN L)) (tabR ab mb T) (fun _ => tabR ab mb (putN T L))) [rowL encR (.slice oa L.length oc) 38 2 L] _ (fun _ _ _ _ x => x) rfl (fun _ => rfl) (fun _ => rfl) Try.func10 rfl rfl rfl (fun _ => rfl) (.refl _) (fun vs h' _ _ => hpu h') ?_
        refine RG_val rfl rfl (fun _ => rfl) (fun _ => X_move rfl rfl) ?_
        refine RG_val rfl rfl (fun _ => rfl) (fun _ => X_fieldAddr rfl rfl rfl (by simp only [Nat.zero_add] <;> rfl)) ?_
        refine RG_val rfl rfl (fun _ => rfl) (fun _ => X_load1 rfl rfl (by exact idx1) rfl rfl) ?_
        refine RG_call (.opq (fun u _ => u = .int .i64 (errN L)) [refS rb M] (fun _ => [refS rb (insN M L)])) [] _ (fun _ _ _ _ x => x) rfl (fun _ => rfl) (fun _ => rfl) Try.func11 rfl rfl rfl (fun _ => rfl) (.refl _) (fun vs h' hl _ => hpr h' hl) ?_
        refine RG_valO (.bool false) rfl rfl (fun _ => rfl) (fun vs h' hl hf => ?_) ?_
        · refine X_neq_f (k := .i64) (a := errN L) (b := errN L) rfl ?_ ?_ rfl
          · exact congrArg some hf.2.1
          · exact congrArg some hf.1
        refine RG_val rfl rfl (fun _ => rfl) (fun _ => X_move rfl rfl) ?_
        refine RG_val rfl rfl (fun _ => rfl) (fun _ => X_move rfl rfl) ?_
        refine RG_val rfl rfl (fun _ => rfl) (fun _ => X_fieldAddr rfl rfl rfl (by simp only [Nat.zero_add] <;> rfl)) ?_
        refine RG_val rfl rfl (fun _ => rfl) (fun _ => X_load1 rfl rfl (by exact idx1) rfl rfl) ?_
        refine RG_call (.val (.bool true)) [rowL encR (.slice oa L.length oc) 38 2 L] _ trivial rfl (fun _ => rfl) (fun _ => rfl) Try.func12 rfl rfl rfl (fun _ => rfl) (.refl _) (fun vs h' hl _ => hsm h' hl) ?_
        refine RG_val rfl rfl (fun _ => rfl) (fun _ => X_not rfl rfl) ?_
        refine RG_val rfl rfl (fun _ => rfl) (fun _ => X_pick_f rfl rfl rfl) ?_
        refine RG_nil ?_
        refine RG_endC ((List.perm_append_comm (l₁ := [_, _]) (l₂ := [_, _, _]))) (fun vs => by simp only [endE, List.cons_append, List.nil_append] <;> rfl) (fun vs => by simp only [endR, List.cons_append, List.nil_append, List.append_nil] <;> rfl) (fun vs h' hf => hf) ?_
        rintro vs h4 hl4 -
        simp only [Nat.zero_add, Nat.reduceAdd, tabR, List.cons_append, List.nil_append]
        (repeat (first | refine WL_nil ?_ | refine Then_normal ?_ | refine W_seq ?_ | refine W_skip ?_ | refine W_false rfl ?_))
        skip
        refine W_region rfl ?_
        refine WL_is (X_assign rfl rfl) rfl rfl rfl ?_
        (repeat (first | refine WL_nil ?_ | refine Then_normal ?_ | refine W_block ?_))
        refine W_loop (X := Nat × List (Int × Int)) (L := fun x => ⟨[(8, .int .i64 (x.1 : Int)), (7, .slice oa L.length oc), (5, .int .i64 (i : Int)), (3, .pointer (some ⟨ab, 0, none⟩)), (4, .pointer (some ⟨rb, 0, none⟩)), (0, v)], [], [refS rb (insN M L), blk ab [.map (some mb)] 52, mpB ekI evW mb (putN T L), rowL encR (.slice oa L.length oc) 38 2 x.2], h4⟩) (p := fun x => x.1 ≤ L.length ∧ x.2.length = L.length) (μ := fun x => L.length - x.1) (0, L) ⟨(by repeat (first | exact SubE_nil | refine SubE_cons rfl ?_)), rfl, .cons _ (.cons _ (.cons _ (.cons _ (SubR.none _)))), rfl⟩ ⟨Nat.zero_le _, rfl⟩ ?_
        rintro ⟨k, M2⟩ ⟨hk, hkl⟩
        dsimp only at hk hkl ⊢
        by_cases hkk : k < L.length
        · refine W_updE (UpdE.shapePos 3 rfl (by omega)) ?_
          rintro _ h4 - ⟨rfl, rfl, b, rfl⟩
          (repeat (first | refine W_seq ?_))
          refine W_region rfl ?_
          refine WL_is (X_move rfl rfl) rfl rfl rfl ?_
          refine WL_is (X_move rfl rfl) rfl rfl rfl ?_
          refine WL_is (X_len rfl rfl rfl) rfl rfl rfl ?_
          refine WL_is (X_lss_t rfl rfl rfl (by omega)) rfl rfl rfl ?_
          (repeat (first | refine WL_nil ?_ | refine Then_normal ?_ | refine W_seq ?_ | refine W_skip ?_ | refine W_block ?_ | refine W_true rfl ?_))
          skip
          refine W_region rfl ?_
          refine WL_is (X_move rfl rfl) rfl rfl rfl ?_
          refine WL_is (X_move rfl rfl) rfl rfl rfl ?_
          refine WL_is (X_index_row rfl rfl (by exact idx3) rfl rfl rfl (by omega)) rfl rfl rfl ?_
          refine WL_is (X_fieldAddr_spot rfl rfl rfl (by simp only [Nat.zero_add] <;> rfl)) rfl rfl rfl ?_
          refine WL_is (X_load_spot rfl rfl (by exact idx3) (by omega) rfl (by omega) rfl) rfl rfl rfl ?_
          refine WL_is (X_add rfl rfl rfl) rfl rfl rfl ?_
          refine WL_is (X_index_row rfl rfl (by exact idx3) rfl rfl rfl (by omega)) rfl rfl rfl ?_
          refine WL_is (X_fieldAddr_spot rfl rfl rfl (by simp only [Nat.zero_add] <;> rfl)) rfl rfl rfl ?_
          refine WL_store_spot rfl rfl rfl (by exact idx3) (by omega) rfl rfl rfl rfl rfl (by omega) rfl rfl rfl rfl ?_
          (repeat (first | refine WL_nil ?_ | refine Then_normal ?_ | refine inBlk_normal ?_))
          skip
          refine W_region rfl ?_
          refine WL_is (X_move rfl rfl) rfl rfl rfl ?_
          refine WL_is (X_addW rfl rfl rfl (by exact wrap_i64_in (by omega) (by omega))) rfl rfl rfl ?_
          refine WL_is (X_assign rfl rfl) rfl rfl rfl ?_
          (repeat (first | refine WL_nil ?_ | refine Then_normal ?_))
          refine ⟨(k + 1, M2.set k _), ⟨(by repeat (first | exact SubE_nil | refine SubE_cons rfl ?_)), rfl, SubR.refl _, rfl⟩, ⟨hkk, by simpa using hkl⟩, by dsimp only; omega⟩
        · (repeat (first | refine W_seq ?_))
          refine W_region rfl ?_
          refine WL_is (X_move rfl rfl) rfl rfl rfl ?_
          refine WL_is (X_move rfl rfl) rfl rfl rfl ?_
          refine WL_is (X_len rfl rfl rfl) rfl rfl rfl ?_
          refine WL_is (X_lss_f rfl rfl rfl (by omega)) rfl rfl rfl ?_
          (repeat (first | refine WL_nil ?_ | refine Then_normal ?_ | refine W_seq ?_ | refine W_exit ?_ | refine Then_exit ?_ | refine inBlk_normal ?_ | refine inBlk_here ?_ | refine W_false rfl ?_))
          refine W_upd (Upd.sub (R' := refS rb (insN M L) :: tabR ab mb (putN T L)) (by exact SubR_pick 0 rfl (SubR_pick 0 rfl (SubR_pick 0 rfl (SubR.none _))))) ?_
          have hfin : InvP (putN T L) (insN M L) := hA.putN L
          have hlim : (insN M L).length ≤ 2000 * (i + 1) := by have := insN_len M L; omega
          have hlf : le h h4 := hle.trans hl4
          obtain ⟨T3, hT3⟩ : ∃ T3, T3 = putN T L := ⟨_, rfl⟩
          obtain ⟨M3, hM3⟩ : ∃ M3, M3 = insN M L := ⟨_, rfl⟩
          rw [← hT3, ← hM3] at hfin ⊢
          rw [← hM3] at hlim
          clear hT3 hM3
          have hpl := hfin.perm.length_eq
          have hle5 := fun h' => len_rd h' ab mb T3
          have hli5 := fun h' => list_rd h' ab mb T3 M3 (by omega) hfin.perm hfin.so
          refine W_updE UpdE.refO ?_
          rintro _ h5 hl5 ⟨rfl, rv, rfl⟩
          refine W_updE (UpdE.shapeL 1 rfl) ?_
          rintro _ h6 hl6 ⟨rfl, rfl, ra, rc, rfl⟩
          simp only [tabR]
          skip
          refine W_draw0 18 rfl rfl rfl rfl ?_
          refine RG_val rfl rfl (fun _ => rfl) (fun _ => X_move rfl rfl) ?_
          refine RG_call (.val (.int .i64 (T3.length : Int))) (tabR ab mb T3) _ trivial rfl (fun _ => rfl) (fun _ => rfl) Try.func17 rfl rfl rfl (fun _ => rfl) (List.perm_append_comm (l₁ := [_, _]) (l₂ := [_, _])) (fun vs h' _ _ => hle5 h') ?_
          refine RG_val rfl rfl (fun _ => rfl) (fun _ => X_move rfl rfl) ?_
          refine RG_val rfl rfl (fun _ => rfl) (fun _ => X_nilCheck rfl rfl) ?_
          refine RG_val rfl rfl (fun _ => rfl) (fun _ => X_fieldAddr rfl rfl rfl (by simp only [Nat.zero_add] <;> rfl)) ?_
          refine RG_val rfl rfl (fun _ => rfl) (fun _ => X_load1 rfl rfl (by exact idx0) rfl rfl) ?_
          refine RG_val rfl rfl (fun _ => rfl) (fun _ => X_len rfl rfl rfl) ?_
          refine RG_val rfl rfl (fun _ => rfl) (fun _ => X_neq_f rfl rfl rfl (by omega)) ?_
          refine RG_val rfl rfl (fun _ => rfl) (fun _ => X_move rfl rfl) ?_
          refine RG_val rfl rfl (fun _ => rfl) (fun _ => X_move rfl rfl) ?_
          refine RG_call (.opq (fun u h => Sl encR 2 h u M3) [] (fun _ => [])) (tabR ab mb T3) _ (fun _ _ _ hl x => x.mono hl) rfl (fun _ => rfl) (fun _ => rfl) Try.func18 rfl rfl rfl (fun _ => rfl) (List.perm_append_comm (l₁ := [_, _]) (l₂ := [_, _])) (fun vs h' _ _ => hli5 h') ?_
          refine RG_val rfl rfl (fun _ => rfl) (fun _ => X_move rfl rfl) ?_
          refine RG_val rfl rfl (fun _ => rfl) (fun _ => X_nilCheck rfl rfl) ?_
          refine RG_val rfl rfl (fun _ => rfl) (fun _ => X_fieldAddr rfl rfl rfl (by simp only [Nat.zero_add] <;> rfl)) ?_
          refine RG_val rfl rfl (fun _ => rfl) (fun _ => X_load1 rfl rfl (by exact idx0) rfl rfl) ?_
          refine RG_call (.val (.bool true)) [rowL encR (.slice ra M3.length rc) 38 2 M3] _ trivial rfl (fun _ => rfl) (fun _ => rfl) Try.func12 rfl rfl rfl (fun _ => rfl) (List.Perm.swap _ _ _) (fun vs h' _ hf => same_lent2 h' M3 _ _ hf.1 (by omega)) ?_
          refine RG_val rfl rfl (fun _ => rfl) (fun _ => X_not rfl rfl) ?_
          refine RG_val rfl rfl (fun _ => rfl) (fun _ => X_pick_f rfl rfl rfl) ?_
          refine RG_nil ?_
          refine RG_end rfl (fun vs => by simp only [endE, List.cons_append, List.nil_append] <;> rfl) (fun vs => by simp only [endR, List.nil_append, List.append_nil] <;> rfl) (fun vs h' hf => hf) ?_
          rintro vs h7 hl7 -
          (repeat (first | refine WL_nil ?_ | refine Then_normal ?_ | refine W_skip ?_ | refine inBlk_normal ?_ | refine W_false rfl ?_))
          refine W_upd Upd.refC ?_
          skip
          refine W_region rfl ?_
          refine WL_is (X_move rfl rfl) rfl rfl rfl ?_
          refine WL_is (X_addW rfl rfl rfl (by exact wrap_i64_in (by omega) (by omega))) rfl rfl rfl ?_
          refine WL_is (X_assign rfl rfl) rfl rfl rfl ?_
          (repeat (first | refine WL_nil ?_ | refine Then_normal ?_))
          exact ⟨((i + 1, T3, M3), h7), ⟨(by repeat (first | exact SubE_nil | refine SubE_cons rfl ?_)), rfl, SubR.refl _, rfl⟩, ⟨hil, hfin, hlim, hlf.trans (hl5.trans (hl6.trans hl7))⟩, by dsimp only; omega⟩
      · by_cases hd1 : d = 1
        · skip
          refine W_region rfl ?_
          refine WL_is (X_fieldAddr rfl rfl rfl (by simp only [Nat.zero_add] <;> rfl)) rfl rfl rfl ?_
          refine WL_is (X_load1 rfl rfl (by exact idx0) rfl rfl) rfl rfl rfl ?_
          (repeat (first | refine WL_nil ?_ | refine Then_normal ?_ | refine W_seq ?_ | refine W_block ?_))
          skip
          refine W_region rfl ?_
          refine WL_is (X_eql_f rfl rfl rfl (by omega)) rfl rfl rfl ?_
          refine WL_is (X_assign rfl rfl) rfl rfl rfl ?_
          (repeat (first | refine WL_nil ?_ | refine Then_normal ?_ | refine W_seq ?_ | refine W_false rfl ?_))
          skip
          refine W_region rfl ?_
          refine WL_is (X_eql_t rfl rfl rfl (by omega)) rfl rfl rfl ?_
          refine WL_is (X_assign rfl rfl) rfl rfl rfl ?_
          (repeat (first | refine WL_nil ?_ | refine Then_normal ?_ | refine W_seq ?_ | refine W_true rfl ?_))
          have hdo := fun h' => done_rd h' ab mb T sa
          have hdr := fun h' => done_refd h' rb T M sa hA (by omega)
          skip
          refine W_draw 9 _ [] [blk bx [.int .i64 d, .slice xa L.length xc, .int .i64 sa, .int .u64 sw] 33] rfl rfl rfl (SubE.refl _) rfl ?_
          refine RG_val rfl rfl (fun _ => rfl) (fun _ => X_move rfl rfl) ?_
          refine RG_val rfl rfl (fun _ => rfl) (fun _ => X_fieldAddr rfl rfl rfl (by simp only [Nat.zero_add] <;> rfl)) ?_
          refine RG_val rfl rfl (fun _ => rfl) (fun _ => X_load1 rfl rfl (by exact idx0) rfl rfl) ?_
          refine RG_call (.opq (fun u _ => u = .int .i64 (errD T sa)) (tabR ab mb T) (fun _ => tabR ab mb (delN T sa))) [] _ (fun _ _ _ _ x => x) rfl (fun _ => rfl) (fun _ => rfl) Try.func13 rfl rfl rfl (fun _ => rfl) (.refl _) (fun vs h' _ _ => hdo h') ?_
          refine RG_val rfl rfl (fun _ => rfl) (fun _ => X_move rfl rfl) ?_
          refine RG_val rfl rfl (fun _ => rfl) (fun _ => X_fieldAddr rfl rfl rfl (by simp only [Nat.zero_add] <;> rfl)) ?_
          refine RG_val rfl rfl (fun _ => rfl) (fun _ => X_load1 rfl rfl (by exact idx0) rfl rfl) ?_
          refine RG_call (.opq (fun u _ => u = .int .i64 (errD T sa)) [refS rb M] (fun _ => [refS rb (outR M sa)])) [] _ (fun _ _ _ _ x => x) rfl (fun _ => rfl) (fun _ => rfl) Try.func14 rfl rfl rfl (fun _ => rfl) (.refl _) (fun vs h' _ _ => hdr h') ?_
          refine RG_valO (.bool false) rfl rfl (fun _ => rfl) (fun vs h' hl hf => ?_) ?_
          · refine X_neq_f (k := .i64) (a := errD T sa) (b := errD T sa) rfl ?_ ?_ rfl
            · exact congrArg some hf.2.1
            · exact congrArg some hf.1
          refine RG_nil ?_
          refine RG_endC ((List.perm_append_comm (l₁ := [_]) (l₂ := [_, _, _]))) (fun vs => by simp only [endE, List.cons_append, List.nil_append] <;> rfl) (fun vs => by simp only [endR, List.cons_append, List.nil_append, List.append_nil] <;> rfl) (fun vs h' hf => hf) ?_
          rintro vs h4 hl4 -
          simp only [Nat.zero_add, Nat.reduceAdd, tabR, List.cons_append, List.nil_append]
          (repeat (first | refine WL_nil ?_ | refine Then_normal ?_ | refine W_seq ?_ | refine W_skip ?_ | refine inBlk_normal ?_ | refine W_false rfl ?_))
          refine W_upd (Upd.sub (R' := refS rb (outR M sa) :: tabR ab mb (delN T sa)) (by exact SubR_pick 0 rfl (SubR_pick 0 rfl (SubR_pick 0 rfl (SubR.none _))))) ?_
          have hfin : InvP (delN T sa) (outR M sa) := hA.done sa
          have hlim : (outR M sa).length ≤ 2000 * (i + 1) := by have := outR_le M sa; omega
          have hlf : le h h4 := hle.trans hl4
          obtain ⟨T3, hT3⟩ : ∃ T3, T3 = delN T sa := ⟨_, rfl⟩
          obtain ⟨M3, hM3⟩ : ∃ M3, M3 = outR M sa := ⟨_, rfl⟩
          rw [← hT3, ← hM3] at hfin ⊢
          rw [← hM3] at hlim
          clear hT3 hM3
          have hpl := hfin.perm.length_eq
          have hle5 := fun h' => len_rd h' ab mb T3
          have hli5 := fun h' => list_rd h' ab mb T3 M3 (by omega) hfin.perm hfin.so
          refine W_updE UpdE.refO ?_
          rintro _ h5 hl5 ⟨rfl, rv, rfl⟩
          refine W_updE (UpdE.shapeL 1 rfl) ?_
          rintro _ h6 hl6 ⟨rfl, rfl, ra, rc, rfl⟩
          simp only [tabR]
          skip
          refine W_draw0 18 rfl rfl rfl rfl ?_
          refine RG_val rfl rfl (fun _ => rfl) (fun _ => X_move rfl rfl) ?_
          refine RG_call (.val (.int .i64 (T3.length : Int))) (tabR ab mb T3) _ trivial rfl (fun _ => rfl) (fun _ => rfl) Try.func17 rfl rfl rfl (fun _ => rfl) (List.perm_append_comm (l₁ := [_, _]) (l₂ := [_, _])) (fun vs h' _ _ => hle5 h') ?_
          refine RG_val rfl rfl (fun _ => rfl) (fun _ => X_move rfl rfl) ?_
          refine RG_val rfl rfl (fun _ => rfl) (fun _ => X_nilCheck rfl rfl) ?_
          refine RG_val rfl rfl (fun _ => rfl) (fun _ => X_fieldAddr rfl rfl rfl (by simp only [Nat.zero_add] <;> rfl)) ?_
          refine RG_val rfl rfl (fun _ => rfl) (fun _ => X_load1 rfl rfl (by exact idx0) rfl rfl) ?_
          refine RG_val rfl rfl (fun _ => rfl) (fun _ => X_len rfl rfl rfl) ?_
          refine RG_val rfl rfl (fun _ => rfl) (fun _ => X_neq_f rfl rfl rfl (by omega)) ?_
          refine RG_val rfl rfl (fun _ => rfl) (fun _ => X_move rfl rfl) ?_
          refine RG_val rfl rfl (fun _ => rfl) (fun _ => X_move rfl rfl) ?_
          refine RG_call (.opq (fun u h => Sl encR 2 h u M3) [] (fun _ => [])) (tabR ab mb T3) _ (fun _ _ _ hl x => x.mono hl) rfl (fun _ => rfl) (fun _ => rfl) Try.func18 rfl rfl rfl (fun _ => rfl) (List.perm_append_comm (l₁ := [_, _]) (l₂ := [_, _])) (fun vs h' _ _ => hli5 h') ?_
          refine RG_val rfl rfl (fun _ => rfl) (fun _ => X_move rfl rfl) ?_
          refine RG_val rfl rfl (fun _ => rfl) (fun _ => X_nilCheck rfl rfl) ?_
          refine RG_val rfl rfl (fun _ => rfl) (fun _ => X_fieldAddr rfl rfl rfl (by simp only [Nat.zero_add] <;> rfl)) ?_
          refine RG_val rfl rfl (fun _ => rfl) (fun _ => X_load1 rfl rfl (by exact idx0) rfl rfl) ?_
          refine RG_call (.val (.bool true)) [rowL encR (.slice ra M3.length rc) 38 2 M3] _ trivial rfl (fun _ => rfl) (fun _ => rfl) Try.func12 rfl rfl rfl (fun _ => rfl) (List.Perm.swap _ _ _) (fun vs h' _ hf => same_lent2 h' M3 _ _ hf.1 (by omega)) ?_
          refine RG_val rfl rfl (fun _ => rfl) (fun _ => X_not rfl rfl) ?_
          refine RG_val rfl rfl (fun _ => rfl) (fun _ => X_pick_f rfl rfl rfl) ?_
          refine RG_nil ?_
          refine RG_end rfl (fun vs => by simp only [endE, List.cons_append, List.nil_append] <;> rfl) (fun vs => by simp only [endR, List.nil_append, List.append_nil] <;> rfl) (fun vs h' hf => hf) ?_
          rintro vs h7 hl7 -
          (repeat (first | refine WL_nil ?_ | refine Then_normal ?_ | refine W_skip ?_ | refine inBlk_normal ?_ | refine W_false rfl ?_))
          refine W_upd Upd.refC ?_
          skip
          refine W_region rfl ?_
          refine WL_is (X_move rfl rfl) rfl rfl rfl ?_
          refine WL_is (X_addW rfl rfl rfl (by exact wrap_i64_in (by omega) (by omega))) rfl rfl rfl ?_
          refine WL_is (X_assign rfl rfl) rfl rfl rfl ?_
          (repeat (first | refine WL_nil ?_ | refine Then_normal ?_))
          exact ⟨((i + 1, T3, M3), h7), ⟨(by repeat (first | exact SubE_nil | refine SubE_cons rfl ?_)), rfl, SubR.refl _, rfl⟩, ⟨hil, hfin, hlim, hlf.trans (hl5.trans (hl6.trans hl7))⟩, by dsimp only; omega⟩
        · skip
          refine W_region rfl ?_
          refine WL_is (X_fieldAddr rfl rfl rfl (by simp only [Nat.zero_add] <;> rfl)) rfl rfl rfl ?_
          refine WL_is (X_load1 rfl rfl (by exact idx0) rfl rfl) rfl rfl rfl ?_
          (repeat (first | refine WL_nil ?_ | refine Then_normal ?_ | refine W_seq ?_ | refine W_block ?_))
          skip
          refine W_region rfl ?_
          refine WL_is (X_eql_f rfl rfl rfl (by omega)) rfl rfl rfl ?_
          refine WL_is (X_assign rfl rfl) rfl rfl rfl ?_
          (repeat (first | refine WL_nil ?_ | refine Then_normal ?_ | refine W_seq ?_ | refine W_false rfl ?_))
          skip
          refine W_region rfl ?_
          refine WL_is (X_eql_f rfl rfl rfl (by omega)) rfl rfl rfl ?_
          refine WL_is (X_assign rfl rfl) rfl rfl rfl ?_
          (repeat (first | refine WL_nil ?_ | refine Then_normal ?_ | refine W_seq ?_ | refine W_false rfl ?_))
          have hlo := fun h' => load_rd h' ab mb T sa sw
          have hlr := fun h' => load_refd h' rb T M sa sw hA (by omega)
          skip
          refine W_draw0 13 rfl rfl rfl rfl ?_
          refine RG_val rfl rfl (fun _ => rfl) (fun _ => X_move rfl rfl) ?_
          refine RG_val rfl rfl (fun _ => rfl) (fun _ => X_fieldAddr rfl rfl rfl (by simp only [Nat.zero_add] <;> rfl)) ?_
          refine RG_val rfl rfl (fun _ => rfl) (fun _ => X_load1 rfl rfl (by exact idx0) rfl rfl) ?_
          refine RG_val rfl rfl (fun _ => rfl) (fun _ => X_fieldAddr rfl rfl rfl (by simp only [Nat.zero_add] <;> rfl)) ?_
          refine RG_val rfl rfl (fun _ => rfl) (fun _ => X_load1 rfl rfl (by exact idx0) rfl rfl) ?_
          refine RG_call (.val (.int .u64 ((lkM T sa).getD sw))) (tabR ab mb T) [blk bx [.int .i64 d, .slice xa L.length xc, .int .i64 sa, .int .u64 sw] 33, refS rb M] trivial rfl (fun _ => rfl) (fun _ => rfl) Try.func15 rfl rfl rfl (fun _ => rfl) (List.perm_append_comm (l₁ := [_, _]) (l₂ := [_, _])) (fun vs h' _ _ => hlo h') ?_
          refine RG_val rfl rfl (fun _ => rfl) (fun _ => X_move rfl rfl) ?_
          refine RG_val rfl rfl (fun _ => rfl) (fun _ => X_fieldAddr rfl rfl rfl (by simp only [Nat.zero_add] <;> rfl)) ?_
          refine RG_val rfl rfl (fun _ => rfl) (fun _ => X_load1 rfl rfl (by exact idx0) rfl rfl) ?_
          refine RG_val rfl rfl (fun _ => rfl) (fun _ => X_fieldAddr rfl rfl rfl (by simp only [Nat.zero_add] <;> rfl)) ?_
          refine RG_val rfl rfl (fun _ => rfl) (fun _ => X_load1 rfl rfl (by exact idx0) rfl rfl) ?_
          refine RG_call (.val (.int .u64 ((lkM T sa).getD sw))) [refS rb M] _ trivial rfl (fun _ => rfl) (fun _ => rfl) Try.func16 rfl rfl rfl (fun _ => rfl) (perm_front 1 rfl) (fun vs h' _ _ => hlr h') ?_
          refine RG_val rfl rfl (fun _ => rfl) (fun _ => X_neq_f rfl rfl rfl (by omega)) ?_
          refine RG_nil ?_
          refine RG_endv rfl (fun vs => by simp only [endE, List.cons_append, List.nil_append] <;> rfl) (fun vs => rfl) ?_
          (repeat (first | refine WL_nil ?_ | refine Then_normal ?_ | refine W_seq ?_ | refine W_skip ?_ | refine inBlk_normal ?_ | refine W_false rfl ?_))
          refine W_upd (Upd.sub (R' := refS rb (M) :: tabR ab mb (T)) (by exact SubR_pick 1 rfl (.skip _ (SubR.refl _)))) ?_
          have hfin : InvP (T) (M) := hA
          have hlim : (M).length ≤ 2000 * (i + 1) := by omega
          have hlf : le h h2 := hle
          obtain ⟨T3, hT3⟩ : ∃ T3, T3 = T := ⟨_, rfl⟩
          obtain ⟨M3, hM3⟩ : ∃ M3, M3 = M := ⟨_, rfl⟩
          rw [← hT3, ← hM3] at hfin ⊢
          rw [← hM3] at hlim
          clear hT3 hM3
          have hpl := hfin.perm.length_eq
          have hle5 := fun h' => len_rd h' ab mb T3
          have hli5 := fun h' => list_rd h' ab mb T3 M3 (by omega) hfin.perm hfin.so
          refine W_updE UpdE.refO ?_
          rintro _ h5 hl5 ⟨rfl, rv, rfl⟩
          refine W_updE (UpdE.shapeL 1 rfl) ?_
          rintro _ h6 hl6 ⟨rfl, rfl, ra, rc, rfl⟩
          simp only [tabR]
          skip
          refine W_draw0 18 rfl rfl rfl rfl ?_
          refine RG_val rfl rfl (fun _ => rfl) (fun _ => X_move rfl rfl) ?_
          refine RG_call (.val (.int .i64 (T3.length : Int))) (tabR ab mb T3) _ trivial rfl (fun _ => rfl) (fun _ => rfl) Try.func17 rfl rfl rfl (fun _ => rfl) (List.perm_append_comm (l₁ := [_, _]) (l₂ := [_, _])) (fun vs h' _ _ => hle5 h') ?_
          refine RG_val rfl rfl (fun _ => rfl) (fun _ => X_move rfl rfl) ?_
          refine RG_val rfl rfl (fun _ => rfl) (fun _ => X_nilCheck rfl rfl) ?_
          refine RG_val rfl rfl (fun _ => rfl) (fun _ => X_fieldAddr rfl rfl rfl (by simp only [Nat.zero_add] <;> rfl)) ?_
          refine RG_val rfl rfl (fun _ => rfl) (fun _ => X_load1 rfl rfl (by exact idx0) rfl rfl) ?_
          refine RG_val rfl rfl (fun _ => rfl) (fun _ => X_len rfl rfl rfl) ?_
          refine RG_val rfl rfl (fun _ => rfl) (fun _ => X_neq_f rfl rfl rfl (by omega)) ?_
          refine RG_val rfl rfl (fun _ => rfl) (fun _ => X_move rfl rfl) ?_
          refine RG_val rfl rfl (fun _ => rfl) (fun _ => X_move rfl rfl) ?_
          refine RG_call (.opq (fun u h => Sl encR 2 h u M3) [] (fun _ => [])) (tabR ab mb T3) _ (fun _ _ _ hl x => x.mono hl) rfl (fun _ => rfl) (fun _ => rfl) Try.func18 rfl rfl rfl (fun _ => rfl) (List.perm_append_comm (l₁ := [_, _]) (l₂ := [_, _])) (fun vs h' _ _ => hli5 h') ?_
          refine RG_val rfl rfl (fun _ => rfl) (fun _ => X_move rfl rfl) ?_
          refine RG_val rfl rfl (fun _ => rfl) (fun _ => X_nilCheck rfl rfl) ?_
          refine RG_val rfl rfl (fun _ => rfl) (fun _ => X_fieldAddr rfl rfl rfl (by simp only [Nat.zero_add] <;> rfl)) ?_
          refine RG_val rfl rfl (fun _ => rfl) (fun _ => X_load1 rfl rfl (by exact idx0) rfl rfl) ?_
          refine RG_call (.val (.bool true)) [rowL encR (.slice ra M3.length rc) 38 2 M3] _ trivial rfl (fun _ => rfl) (fun _ => rfl) Try.func12 rfl rfl rfl (fun _ => rfl) (List.Perm.swap _ _ _) (fun vs h' _ hf => same_lent2 h' M3 _ _ hf.1 (by omega)) ?_
          refine RG_val rfl rfl (fun _ => rfl) (fun _ => X_not rfl rfl) ?_
          refine RG_val rfl rfl (fun _ => rfl) (fun _ => X_pick_f rfl rfl rfl) ?_
          refine RG_nil ?_
          refine RG_end rfl (fun vs => by simp only [endE, List.cons_append, List.nil_append] <;> rfl) (fun vs => by simp only [endR, List.nil_append, List.append_nil] <;> rfl) (fun vs h' hf => hf) ?_
          rintro vs h7 hl7 -
          (repeat (first | refine WL_nil ?_ | refine Then_normal ?_ | refine W_skip ?_ | refine inBlk_normal ?_ | refine W_false rfl ?_))
          refine W_upd Upd.refC ?_
          skip
          refine W_region rfl ?_
          refine WL_is (X_move rfl rfl) rfl rfl rfl ?_
          refine WL_is (X_addW rfl rfl rfl (by exact wrap_i64_in (by omega) (by omega))) rfl rfl rfl ?_
          refine WL_is (X_assign rfl rfl) rfl rfl rfl ?_
          (repeat (first | refine WL_nil ?_ | refine Then_normal ?_))
          exact ⟨((i + 1, T3, M3), h7), ⟨(by repeat (first | exact SubE_nil | refine SubE_cons rfl ?_)), rfl, SubR.refl _, rfl⟩, ⟨hil, hfin, hlim, hlf.trans (hl5.trans (hl6.trans hl7))⟩, by dsimp only; omega⟩
    · have ha := alive_fn h2
      (repeat (first | refine W_seq ?_))
      refine W_region rfl ?_
      refine WL_is (X_move rfl rfl) rfl rfl rfl ?_
      refine WL_is (X_move rfl rfl) rfl rfl rfl ?_
      refine WL_is (X_len_sl rfl rfl rfl (by assumption)) rfl rfl rfl ?_
      refine WL_is (X_lss_f rfl rfl rfl (by omega)) rfl rfl rfl ?_
      (repeat (first | refine WL_nil ?_ | refine Then_normal ?_ | refine W_seq ?_ | refine W_exit ?_ | refine Then_exit ?_ | refine inBlk_here ?_ | refine W_false rfl ?_))
      skip
      refine W_region rfl ?_
      refine WL_is (X_callv rfl rfl rfl Try.func8 rfl (by assumption)) rfl rfl rfl ?_
      refine WL_is (X_assign rfl rfl) rfl rfl rfl ?_
      (repeat (first | refine WL_nil ?_ | refine Then_normal ?_ | refine W_ret ?_))
      refine Body_end rfl rfl rfl (SubR.none _) ?_
      rfl
end Go.Proofs.Ytmohiefnoflndaa
