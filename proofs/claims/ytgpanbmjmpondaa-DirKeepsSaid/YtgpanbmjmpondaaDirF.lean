/- Directories: which may be (dir.Check). -/
import Derived.Test.YtgpanbmjmpondaaDirE
namespace Go.Proofs.Ytgpanbmjmpondaa
set_option maxRecDepth 4000
open Go Go.Par PH
def okS (e : Spo × Slo) : Bool := mayS e.2 && (decide (checkE e.2.nm = 0) && decide (bucketL e.2.nm = e.1.b))
def nms (l : List (Spo × Slo)) : List Bs := l.map fun e => e.2.nm
def goodL (l : List (Spo × Slo)) : Bool := l.all okS && decide (nms l).Nodup
def mayD (d : Dr) : Bool := decide (maxR d ≤ 255) && goodL (allL d)
theorem goodL_sub {a b : List (Spo × Slo)} (h : a.Sublist b) (g : goodL b = true) : goodL a = true := by
  simp only [goodL, Bool.and_eq_true, List.all_eq_true, decide_eq_true_eq] at g ⊢
  exact ⟨fun e he => g.1 e (h.subset he), List.Pairwise.sublist (h.map _) g.2⟩
theorem goodL_app (l : List (Spo × Slo)) (e : Spo × Slo) : goodL (l ++ [e]) = (goodL l && (okS e && decide (¬ e.2.nm ∈ nms l))) := by
  have h : (nms (l ++ [e])).Nodup ↔ (nms l).Nodup ∧ ¬ e.2.nm ∈ nms l := by
    unfold nms
    rw [List.map_append, List.nodup_append]
    simp only [List.map_cons, List.map_nil, List.mem_singleton]
    constructor
    · intro ⟨h1, _, h3⟩; exact ⟨h1, fun hm => h3 _ hm _ rfl rfl⟩
    · intro ⟨h1, h2⟩; exact ⟨h1, by simp, fun a ha b hb e => h2 (by rw [← hb, ← e]; exact ha)⟩
  unfold goodL
  rw [List.all_append, Bool.eq_iff_iff]
  simp only [List.all_cons, List.all_nil, Bool.and_true, Bool.and_eq_true, decide_eq_true_eq, h]
  constructor
  · rintro ⟨⟨a, b⟩, c, d⟩; exact ⟨⟨a, c⟩, b, d⟩
  · rintro ⟨⟨a, c⟩, b, d⟩; exact ⟨⟨a, b⟩, c, d⟩
theorem neL_take_sub (l : List (Spo × Slo)) (j : Nat) : (neL (l.take j)).Sublist (neL l) := (List.take_sublist j l).filter _
/-- What Check has met. -/
def metM (M : List (Bs × Int)) (l : List (Spo × Slo)) : Prop := ∀ k, lkM M k = if k ∈ nms l then some 1 else none
theorem metM_step {M : List (Bs × Int)} {l : List (Spo × Slo)} {e : Spo × Slo} (h : metM M l) : metM (upM M e.2.nm 1) (l ++ [e]) := fun k => by
  rw [lk_up, h k]
  have : nms (l ++ [e]) = nms l ++ [e.2.nm] := by simp [nms]
  rw [this]
  by_cases h1 : k = e.2.nm
  · simp [h1]
  · simp [h1]
structure MeX where
  M : List (Bs × Int)
  e : Int
theorem maxR_ge {d : Dr} {k : Nat} (h : 255 < (d.row k).length) : mayD d = false := by
  have := row_le d k
  unfold mayD
  rw [decide_eq_false (by omega)]; rfl
theorem maxR_le {d : Dr} (h : ∀ k, k < 4 → (d.row k).length ≤ 255) : maxR d ≤ 255 := by
  have a := h 0 (by omega); have b := h 1 (by omega); have c := h 2 (by omega); have e := h 3 (by omega)
  unfold maxR
  simp only [Dr.row] at a b c e
  omega
theorem maxR_le' {d : Dr} (h : ∀ k, k < 4 → ((d.row k).length : Int) ≤ 255) : maxR d ≤ 255 := maxR_le fun k hk => by have := h k hk; omega
def checkD (d : Dr) : Int := if mayD d = true then 0 else 2
def nmsOk (d : Dr) : Prop := ∀ e ∈ slotsL d, e.2.nm.length ≤ 1000000
attribute [local irreducible] W WL Does Exec Body Then inBlk RG WR row obj pblk
set_option maxHeartbeats 4000000 in
theorem check_fn (h : PH) (v : Value) (d : Dr) (hv : DrV h v d) (hb : maxR d ≤ 1000000) (hn : nmsOk d) : Does Try.prog 10 [v] [] h (Ret fun r _ _ => r = .int .i64 (checkD d)) := by
  obtain ⟨x0, x1, x2, x3, rfl, h0, h1, h2, h3⟩ := hv
  have hrow : ∀ k, k < 4 → ∃ xk, [x0, x1, x2, x3][k]? = some xk ∧ Sl encChu 31 h xk (d.row k) := fun k hk => by
    match k, hk with
    | 0, _ => exact ⟨x0, rfl, h0⟩
    | 1, _ => exact ⟨x1, rfl, h1⟩
    | 2, _ => exact ⟨x2, rfl, h2⟩
    | 3, _ => exact ⟨x3, rfl, h3⟩
  obtain ⟨_, _, e0⟩ := h0.shape
  obtain ⟨_, _, e1⟩ := h1.shape
  obtain ⟨_, _, e2⟩ := h2.shape
  obtain ⟨_, _, e3⟩ := h3.shape
  have hs := slots_fn h _ d ⟨_, _, _, _, rfl, h0, h1, h2, h3⟩ hb
  have hsl := slots_len d
  have hvc : vcO (drV x0 x1 x2 x3) = some [x0, x1, x2, x3] := by subst e0; subst e1; subst e2; subst e3; rfl
  unfold drV at hs hvc ⊢
  refine Does_of_WM Try.func10 rfl (n := 54) rfl rfl (by simp only [argE] <;> rfl) ?_
  (repeat (first | refine W_seq ?_))
  refine W_region rfl ?_
  refine WL_box rfl rfl hvc rfl rfl rfl ?_
  intro b1
  (refine WL_alloc rfl rfl rfl rfl rfl rfl ?_; intro b_)
  (repeat (first | refine WL_nil ?_ | refine Then_normal ?_ | refine W_seq ?_))
  generalize b_ = rb
  skip
  refine W_region rfl ?_
  refine WL_is (X_fieldAddr rfl rfl rfl (by simp only [Nat.zero_add] <;> rfl)) rfl rfl rfl ?_
  refine WL_is (X_loadA rfl rfl (by exact idx1) rfl rfl rfl) rfl rfl rfl ?_
  refine WL_is (X_move rfl rfl) rfl rfl rfl ?_
  (repeat (first | refine WL_nil ?_ | refine Then_normal ?_ | refine W_block ?_))
  refine W_loop (X := Nat) (L := fun k => ⟨[(10, .int .i64 (k : Int)), (9, .agg #[x0, x1, x2, x3]), (1, .pointer (some ⟨b1, 0, none⟩)), (2, .pointer (some ⟨rb, 0, none⟩))], [], [blk rb [.int .i64 0] 29, blk b1 [x0, x1, x2, x3] 25], h⟩) (p := fun k => k ≤ 4 ∧ ∀ q, q < k → ((d.row q).length : Int) ≤ 255) (μ := fun k => 4 - k) 0 ⟨(by repeat (first | exact SubE_nil | refine SubE_cons rfl ?_)), rfl, SubR.refl _, rfl⟩ ⟨Nat.zero_le _, fun q hq => by omega⟩ ?_
  rintro k ⟨hk, hall⟩
  by_cases hk4 : k < 4
  · obtain ⟨xk, hxk, hsk⟩ := hrow k hk4
    obtain ⟨xa, xc, rfl⟩ := hsk.shape
    (repeat (first | refine W_seq ?_))
    refine W_region rfl ?_
    refine WL_is (X_lss_t rfl rfl rfl (by omega)) rfl rfl rfl ?_
    (repeat (first | refine WL_nil ?_ | refine Then_normal ?_ | refine W_seq ?_ | refine W_skip ?_ | refine W_block ?_ | refine W_true rfl ?_))
    skip
    refine W_region rfl ?_
    refine WL_is (X_index_valS (sz := 1) (q := k) (cs := [x0, x1, x2, x3]) rfl rfl rfl rfl rfl rfl (by omega) (by omega) (by simp) hxk) rfl rfl rfl ?_
    by_cases hc : ((d.row k).length : Int) > 255
    · refine WL_is (X_assign rfl rfl) rfl rfl rfl ?_
      (repeat (first | refine WL_nil ?_ | refine Then_normal ?_ | refine W_seq ?_))
      skip
      refine W_region rfl ?_
      refine WL_is (X_move rfl rfl) rfl rfl rfl ?_
      refine WL_is (X_len_sl rfl rfl rfl (by assumption)) rfl rfl rfl ?_
      refine WL_is (X_gtr_t rfl rfl rfl (by omega)) rfl rfl rfl ?_
      (repeat (first | refine WL_nil ?_ | refine Then_normal ?_ | refine W_seq ?_ | refine W_true rfl ?_))
      skip
      refine W_region rfl ?_
      refine WL_store rfl rfl rfl (by exact idx0) rfl rfl rfl rfl rfl rfl rfl rfl rfl ?_
      (repeat (first | refine WL_nil ?_ | refine Then_normal ?_ | refine W_ret ?_ | refine Then_ret ?_ | refine inBlk_ret ?_))
      refine BodyM_0 (Body_vals (.cons (.cell1 rfl idx0 rfl rfl) .nil) rfl ?_)
      refine UpdE.of (Upd.sub (SubR.none _)) ?_
      rw [checkD, maxR_ge (k := k) (by omega)]; rfl
    · refine WL_is (X_assign rfl rfl) rfl rfl rfl ?_
      (repeat (first | refine WL_nil ?_ | refine Then_normal ?_ | refine W_seq ?_))
      skip
      refine W_region rfl ?_
      refine WL_is (X_move rfl rfl) rfl rfl rfl ?_
      refine WL_is (X_len_sl rfl rfl rfl (by assumption)) rfl rfl rfl ?_
      refine WL_is (X_gtr_f rfl rfl rfl (by omega)) rfl rfl rfl ?_
      (repeat (first | refine WL_nil ?_ | refine Then_normal ?_ | refine W_skip ?_ | refine inBlk_normal ?_ | refine W_false rfl ?_))
      skip
      refine W_region rfl ?_
      refine WL_is (X_addW rfl rfl rfl (by exact wrap_i64_in (by omega) (by omega))) rfl rfl rfl ?_
      refine WL_is (X_move rfl rfl) rfl rfl rfl ?_
      (repeat (first | refine WL_nil ?_ | refine Then_normal ?_))
      exact ⟨k + 1, ⟨(by repeat (first | exact SubE_nil | refine SubE_cons rfl ?_)), rfl, SubR.refl _, rfl⟩, ⟨by omega, fun q hq => by
        rcases Nat.lt_or_ge q k with h' | h'
        · exact hall q h'
        · have : q = k := by omega
          subst this; omega⟩, by omega⟩
  · have hk5 : k = 4 := by omega
    subst hk5
    have hmax := maxR_le' hall
    subst e0; subst e1; subst e2; subst e3
    (repeat (first | refine W_seq ?_))
    refine W_region rfl ?_
    refine WL_is (X_lss_f rfl rfl rfl (by omega)) rfl rfl rfl ?_
    (repeat (first | refine WL_nil ?_ | refine Then_normal ?_ | refine W_seq ?_ | refine W_exit ?_ | refine Then_exit ?_ | refine inBlk_here ?_ | refine W_false rfl ?_))
    skip
    refine W_region rfl ?_
    refine WL_any (X_makeMap (ek := ekB) (ev := evI) rfl) rfl rfl rfl ?_
    rintro _ _ h' - ⟨mb, rfl, rfl, rfl⟩
    (refine WL_alloc rfl rfl rfl rfl rfl rfl ?_; intro b_)
    refine WL_store rfl rfl rfl (by exact idx0) rfl rfl rfl rfl rfl rfl rfl rfl rfl ?_
    (repeat (first | refine WL_nil ?_ | refine Then_normal ?_ | refine W_seq ?_))
    generalize b_ = tb
    skip
    refine W_region rfl ?_
    refine WL_is (X_loadA rfl rfl (by exact idx3) rfl rfl rfl) rfl rfl rfl ?_
    refine WL_call rfl rfl rfl Try.func30 rfl rfl rfl rfl hs ?_
    rintro _ _ H1 L1 ⟨rfl, lb, rfl, hit⟩
    simp only [List.nil_append]
    (repeat (first | refine WL_nil ?_ | refine Then_normal ?_ | refine W_block ?_))
    refine W_rangeF (X := MeX) (N := (slotsL d).length) (args := argS d) (RC := []) (R2 := [blk b1 _ 25]) (fun x => [blk tb [.map (some mb)] 63, mpL ekB evI mb x.M, blk rb [.int .i64 x.e] 29]) (fun i x => x.e = 0 ∧ goodL (neL ((slotsL d).take i)) = true ∧ metM x.M (neL ((slotsL d).take i))) (fun _ c x => c = .ret ∧ x.e = 2 ∧ mayD d = false) ⟨[], 0⟩ rfl Try.func41 rfl (by decide) (fun i => argS_len d i) rfl (fun _ => rfl) (.refl _) ⟨rfl, rfl, fun k => rfl⟩ (fun h' hl => hit h' hl) ?_ ?_ ?_
    · rintro lp j ⟨M, e⟩ H4 hj L4 ⟨he, hgo, hme⟩
      dsimp only at he hgo hme ⊢
      subst he
      have hsu := neL_succ hj
      have hnl := hn _ (List.getElem_mem hj)
      rw [argS_get hj]
      generalize (slotsL d)[j] = q at hsu hnl ⊢
      obtain ⟨p, x⟩ := q
      dsimp only at hsu hnl ⊢
      have hsub := neL_take_sub (slotsL d) (j + 1)
      rw [hsu] at hsub
      generalize neL ((slotsL d).take j) = l at hsu hgo hme hsub ⊢
      rw [hsu]
      unfold spoV sloV
      simp only [putL]
      (repeat (first | refine W_seq ?_))
      refine W_region rfl ?_
      (refine WL_alloc rfl rfl rfl rfl rfl rfl ?_; intro b_)
      refine WL_store rfl rfl rfl (by exact idx0) rfl rfl rfl rfl rfl rfl rfl rfl rfl ?_
      (repeat (first | refine WL_nil ?_ | refine Then_normal ?_))
      skip
      refine W_region rfl ?_
      (refine WL_alloc rfl rfl rfl rfl rfl rfl ?_; intro b_)
      refine WL_store rfl rfl rfl (by exact idx0) rfl rfl rfl rfl rfl rfl rfl rfl rfl ?_
      (repeat (first | refine WL_nil ?_ | refine Then_normal ?_ | refine W_seq ?_ | refine W_block ?_))
      skip
      refine W_region rfl ?_
      refine WL_is (X_loadA rfl rfl (by exact idx0) rfl rfl rfl) rfl rfl rfl ?_
      refine WL_is (X_build rfl rfl rfl) rfl rfl rfl ?_
      by_cases hx : x = slo0
      · rw [if_pos hx, List.append_nil]
        refine WL_is (X_eqA 8 heldOk guardOk rfl rfl rfl rfl rfl rfl (eqSlo_t hx)) rfl rfl rfl ?_
        (repeat (first | refine WL_nil ?_ | refine Then_normal ?_ | refine W_exit ?_ | refine Then_exit ?_ | refine inBlk_here ?_ | refine W_true rfl ?_))
        exact ⟨⟨M, 0⟩, .skip _ (.skip _ (SubR.refl _)), rfl, hgo, hme⟩
      · rw [if_neg hx] at hsub ⊢
        have hap := goodL_app l (p, x)
        rw [hgo, Bool.true_and] at hap
        have hbad : goodL (l ++ [(p, x)]) = false → mayD d = false := fun hb => by
          cases hm : mayD d with
          | false => rfl
          | true =>
            simp only [mayD, Bool.and_eq_true] at hm
            rw [goodL_sub hsub hm.2] at hb; cases hb
        refine WL_is (X_eqA 8 heldOk guardOk rfl rfl rfl rfl rfl rfl (eqSlo_f hx)) rfl rfl rfl ?_
        (repeat (first | refine WL_nil ?_ | refine Then_normal ?_ | refine W_seq ?_ | refine W_skip ?_ | refine W_false rfl ?_))
        skip
        refine W_region rfl ?_
        refine WL_is (X_load1 rfl rfl (by exact idx2) rfl rfl) rfl rfl rfl ?_
        refine WL_is (X_fieldAddr rfl rfl rfl (by simp only [Nat.zero_add] <;> rfl)) rfl rfl rfl ?_
        refine WL_is (X_load1 rfl rfl (by exact idx0) rfl rfl) rfl rfl rfl ?_
        refine WL_is (X_lookup rfl rfl (keyB rfl) rfl rfl (k := x.nm) rfl idx3) rfl rfl rfl ?_
        have hk := hme x.nm
        have cm := mayS_fn H4 x
        have cc := checkB_fn H4 x.nm
        have cb := bucket_fn H4 x.nm hnl
        unfold sloV at cm
        obtain ⟨u, hu⟩ : ∃ u : Int, ((lkM M x.nm).map evI).getD (.int .i64 0) = .int .i64 u ∧ (u = if x.nm ∈ nms l then 1 else 0) := by
          rw [hk]
          by_cases hin : x.nm ∈ nms l
          · exact ⟨1, by rw [if_pos hin]; rfl, by rw [if_pos hin]⟩
          · exact ⟨0, by rw [if_neg hin]; rfl, by rw [if_neg hin]⟩
        rw [hu.1]
        have hu0 : 0 ≤ u ∧ u ≤ 1 := by have := hu.2; split at this <;> omega
        have hlu : ((lkM (upM M x.nm (u + 1)) x.nm).map evI).getD (.int .i64 0) = .int .i64 (u + 1) := by rw [lk_up, if_pos rfl]; rfl
        refine WL_is (X_addW rfl rfl rfl (by exact wrap_i64_in (by omega) (by omega))) rfl rfl rfl ?_
        refine WL_mapUpdate (ev := evI) rfl rfl (keyB rfl) rfl (k := x.nm) (v := u + 1) rfl rfl idx3 rfl rfl ?_
        simp only [List.set_cons_succ, List.set_cons_zero]
        (repeat (first | refine WL_nil ?_ | refine Then_normal ?_ | refine W_seq ?_))
        cases hma : mayS x with
        | false =>
          have hno : (okS (p, x) && decide (¬ x.nm ∈ nms l)) = false := by simp [okS, hma]
          rw [hma] at cm
          skip
          refine W_draw0 21 rfl rfl rfl rfl ?_
          refine RG_val rfl rfl (fun _ => rfl) (fun _ => X_loadA rfl rfl (by exact idx0) rfl rfl rfl) ?_
          refine RG_val rfl rfl (fun _ => rfl) (fun _ => X_callv rfl rfl rfl Try.func31 rfl (by assumption)) ?_
          refine RG_val rfl rfl (fun _ => rfl) (fun _ => X_not rfl rfl) ?_
          refine RG_val rfl rfl (fun _ => rfl) (fun _ => X_move rfl rfl) ?_
          refine RG_off rfl rfl (fun _ => rfl) ?_
          refine RG_off rfl rfl (fun _ => rfl) ?_
          refine RG_off rfl rfl (fun _ => rfl) ?_
          refine RG_off rfl rfl (fun _ => rfl) ?_
          refine RG_val rfl rfl (fun _ => rfl) (fun _ => X_pick_t rfl rfl rfl) ?_
          refine RG_val rfl rfl (fun _ => rfl) (fun _ => X_move rfl rfl) ?_
          refine RG_off rfl rfl (fun _ => rfl) ?_
          refine RG_off rfl rfl (fun _ => rfl) ?_
          refine RG_off rfl rfl (fun _ => rfl) ?_
          refine RG_off rfl rfl (fun _ => rfl) ?_
          refine RG_off rfl rfl (fun _ => rfl) ?_
          refine RG_off rfl rfl (fun _ => rfl) ?_
          refine RG_val rfl rfl (fun _ => rfl) (fun _ => X_pick_t rfl rfl rfl) ?_
          refine RG_val rfl rfl (fun _ => rfl) (fun _ => X_move rfl rfl) ?_
          refine RG_off rfl rfl (fun _ => rfl) ?_
          refine RG_off rfl rfl (fun _ => rfl) ?_
          refine RG_off rfl rfl (fun _ => rfl) ?_
          refine RG_nil ?_
          refine RG_endv rfl (fun vs => by simp only [endE, List.cons_append, List.nil_append] <;> rfl) (fun vs => rfl) ?_
          refine WL_off rfl rfl rfl ?_
          refine WL_off rfl rfl rfl ?_
          refine WL_is (X_pick_t rfl rfl rfl) rfl rfl rfl ?_
          (repeat (first | refine WL_nil ?_ | refine Then_normal ?_ | refine W_seq ?_ | refine W_true rfl ?_))
          skip
          refine W_region rfl ?_
          refine WL_store rfl rfl rfl (by exact idx4) rfl rfl rfl rfl rfl rfl rfl rfl rfl ?_
          (repeat (first | refine WL_nil ?_ | refine Then_normal ?_ | refine W_ret ?_ | refine inBlk_ret ?_))
          exact ⟨⟨_, 2⟩, .skip _ (.skip _ (SubR.refl _)), rfl, rfl, hbad (by rw [hap]; exact hno)⟩
        | true =>
          rw [hma] at cm
          by_cases hce : checkE x.nm = 0
          · by_cases hbu : bucketL x.nm = p.b
            · by_cases hin : x.nm ∈ nms l
              · have hno : (okS (p, x) && decide (¬ x.nm ∈ nms l)) = false := by simp [hin]
                rw [if_pos hin] at hu
                have hu1 : u + 1 > 1 := by omega
                skip
                refine W_draw0 21 rfl rfl rfl rfl ?_
                refine RG_val rfl rfl (fun _ => rfl) (fun _ => X_loadA rfl rfl (by exact idx0) rfl rfl rfl) ?_
                refine RG_val rfl rfl (fun _ => rfl) (fun _ => X_callv rfl rfl rfl Try.func31 rfl (by assumption)) ?_
                refine RG_val rfl rfl (fun _ => rfl) (fun _ => X_not rfl rfl) ?_
                refine RG_val rfl rfl (fun _ => rfl) (fun _ => X_move rfl rfl) ?_
                refine RG_val rfl rfl (fun _ => rfl) (fun _ => X_fieldAddr rfl rfl rfl (by simp only [Nat.zero_add] <;> rfl)) ?_
                refine RG_val rfl rfl (fun _ => rfl) (fun _ => X_load1 rfl rfl (by exact idx0) rfl rfl) ?_
                refine RG_val rfl rfl (fun _ => rfl) (fun _ => X_callv rfl rfl rfl Try.func32 rfl (by assumption)) ?_
                refine RG_val rfl rfl (fun _ => rfl) (fun _ => X_neq_f rfl rfl rfl (by omega)) ?_
                refine RG_val rfl rfl (fun _ => rfl) (fun _ => X_pick_f rfl rfl rfl) ?_
                refine RG_val rfl rfl (fun _ => rfl) (fun _ => X_move rfl rfl) ?_
                refine RG_val rfl rfl (fun _ => rfl) (fun _ => X_fieldAddr rfl rfl rfl (by simp only [Nat.zero_add] <;> rfl)) ?_
                refine RG_val rfl rfl (fun _ => rfl) (fun _ => X_load1 rfl rfl (by exact idx0) rfl rfl) ?_
                refine RG_val rfl rfl (fun _ => rfl) (fun _ => X_callv rfl rfl rfl Try.func33 rfl (by assumption)) ?_
                refine RG_val rfl rfl (fun _ => rfl) (fun _ => X_fieldAddr rfl rfl rfl (by simp only [Nat.zero_add] <;> rfl)) ?_
                refine RG_val rfl rfl (fun _ => rfl) (fun _ => X_load1 rfl rfl (by exact idx1) rfl rfl) ?_
                refine RG_val rfl rfl (fun _ => rfl) (fun _ => X_neq_f rfl rfl rfl (by omega)) ?_
                refine RG_val rfl rfl (fun _ => rfl) (fun _ => X_pick_f rfl rfl rfl) ?_
                refine RG_val rfl rfl (fun _ => rfl) (fun _ => X_move rfl rfl) ?_
                refine RG_val rfl rfl (fun _ => rfl) (fun _ => X_load1 rfl rfl (by exact idx2) rfl rfl) ?_
                refine RG_val rfl rfl (fun _ => rfl) (fun _ => X_fieldAddr rfl rfl rfl (by simp only [Nat.zero_add] <;> rfl)) ?_
                refine RG_val rfl rfl (fun _ => rfl) (fun _ => X_load1 rfl rfl (by exact idx0) rfl rfl) ?_
                refine RG_nil ?_
                refine RG_endv rfl (fun vs => by simp only [endE, List.cons_append, List.nil_append] <;> rfl) (fun vs => rfl) ?_
                refine WL_is (X_lookup rfl rfl (keyB rfl) rfl rfl (k := x.nm) rfl idx3) rfl rfl rfl ?_
                rw [hlu]
                refine WL_is (X_gtr_t rfl rfl rfl (by omega)) rfl rfl rfl ?_
                refine WL_is (X_pick_f rfl rfl rfl) rfl rfl rfl ?_
                (repeat (first | refine WL_nil ?_ | refine Then_normal ?_ | refine W_seq ?_ | refine W_true rfl ?_))
                skip
                refine W_region rfl ?_
                refine WL_store rfl rfl rfl (by exact idx4) rfl rfl rfl rfl rfl rfl rfl rfl rfl ?_
                (repeat (first | refine WL_nil ?_ | refine Then_normal ?_ | refine W_ret ?_ | refine inBlk_ret ?_))
                exact ⟨⟨_, 2⟩, .skip _ (.skip _ (SubR.refl _)), rfl, rfl, hbad (by rw [hap]; exact hno)⟩
              · have hyes : (okS (p, x) && decide (¬ x.nm ∈ nms l)) = true := by simp [okS, hma, hce, hbu, hin]
                rw [if_neg hin] at hu
                have hu1 : ¬ u + 1 > 1 := by omega
                have hue : u + 1 = 1 := by omega
                skip
                refine W_draw0 21 rfl rfl rfl rfl ?_
                refine RG_val rfl rfl (fun _ => rfl) (fun _ => X_loadA rfl rfl (by exact idx0) rfl rfl rfl) ?_
                refine RG_val rfl rfl (fun _ => rfl) (fun _ => X_callv rfl rfl rfl Try.func31 rfl (by assumption)) ?_
                refine RG_val rfl rfl (fun _ => rfl) (fun _ => X_not rfl rfl) ?_
                refine RG_val rfl rfl (fun _ => rfl) (fun _ => X_move rfl rfl) ?_
                refine RG_val rfl rfl (fun _ => rfl) (fun _ => X_fieldAddr rfl rfl rfl (by simp only [Nat.zero_add] <;> rfl)) ?_
                refine RG_val rfl rfl (fun _ => rfl) (fun _ => X_load1 rfl rfl (by exact idx0) rfl rfl) ?_
                refine RG_val rfl rfl (fun _ => rfl) (fun _ => X_callv rfl rfl rfl Try.func32 rfl (by assumption)) ?_
                refine RG_val rfl rfl (fun _ => rfl) (fun _ => X_neq_f rfl rfl rfl (by omega)) ?_
                refine RG_val rfl rfl (fun _ => rfl) (fun _ => X_pick_f rfl rfl rfl) ?_
                refine RG_val rfl rfl (fun _ => rfl) (fun _ => X_move rfl rfl) ?_
                refine RG_val rfl rfl (fun _ => rfl) (fun _ => X_fieldAddr rfl rfl rfl (by simp only [Nat.zero_add] <;> rfl)) ?_
                refine RG_val rfl rfl (fun _ => rfl) (fun _ => X_load1 rfl rfl (by exact idx0) rfl rfl) ?_
                refine RG_val rfl rfl (fun _ => rfl) (fun _ => X_callv rfl rfl rfl Try.func33 rfl (by assumption)) ?_
                refine RG_val rfl rfl (fun _ => rfl) (fun _ => X_fieldAddr rfl rfl rfl (by simp only [Nat.zero_add] <;> rfl)) ?_
                refine RG_val rfl rfl (fun _ => rfl) (fun _ => X_load1 rfl rfl (by exact idx1) rfl rfl) ?_
                refine RG_val rfl rfl (fun _ => rfl) (fun _ => X_neq_f rfl rfl rfl (by omega)) ?_
                refine RG_val rfl rfl (fun _ => rfl) (fun _ => X_pick_f rfl rfl rfl) ?_
                refine RG_val rfl rfl (fun _ => rfl) (fun _ => X_move rfl rfl) ?_
                refine RG_val rfl rfl (fun _ => rfl) (fun _ => X_load1 rfl rfl (by exact idx2) rfl rfl) ?_
                refine RG_val rfl rfl (fun _ => rfl) (fun _ => X_fieldAddr rfl rfl rfl (by simp only [Nat.zero_add] <;> rfl)) ?_
                refine RG_val rfl rfl (fun _ => rfl) (fun _ => X_load1 rfl rfl (by exact idx0) rfl rfl) ?_
                refine RG_nil ?_
                refine RG_endv rfl (fun vs => by simp only [endE, List.cons_append, List.nil_append] <;> rfl) (fun vs => rfl) ?_
                refine WL_is (X_lookup rfl rfl (keyB rfl) rfl rfl (k := x.nm) rfl idx3) rfl rfl rfl ?_
                rw [hlu]
                refine WL_is (X_gtr_f rfl rfl rfl (by omega)) rfl rfl rfl ?_
                refine WL_is (X_pick_f rfl rfl rfl) rfl rfl rfl ?_
                (repeat (first | refine WL_nil ?_ | refine Then_normal ?_ | refine W_skip ?_ | refine inBlk_normal ?_ | refine W_false rfl ?_))
                skip
                refine ⟨⟨upM M x.nm (u + 1), 0⟩, .skip _ (.skip _ (SubR.refl _)), rfl, by rw [hap]; exact hyes, ?_⟩
                rw [hue]
                exact metM_step (e := (p, x)) hme
            · have hno : (okS (p, x) && decide (¬ x.nm ∈ nms l)) = false := by simp [okS, hbu]
              skip
              refine W_draw0 21 rfl rfl rfl rfl ?_
              refine RG_val rfl rfl (fun _ => rfl) (fun _ => X_loadA rfl rfl (by exact idx0) rfl rfl rfl) ?_
              refine RG_val rfl rfl (fun _ => rfl) (fun _ => X_callv rfl rfl rfl Try.func31 rfl (by assumption)) ?_
              refine RG_val rfl rfl (fun _ => rfl) (fun _ => X_not rfl rfl) ?_
              refine RG_val rfl rfl (fun _ => rfl) (fun _ => X_move rfl rfl) ?_
              refine RG_val rfl rfl (fun _ => rfl) (fun _ => X_fieldAddr rfl rfl rfl (by simp only [Nat.zero_add] <;> rfl)) ?_
              refine RG_val rfl rfl (fun _ => rfl) (fun _ => X_load1 rfl rfl (by exact idx0) rfl rfl) ?_
              refine RG_val rfl rfl (fun _ => rfl) (fun _ => X_callv rfl rfl rfl Try.func32 rfl (by assumption)) ?_
              refine RG_val rfl rfl (fun _ => rfl) (fun _ => X_neq_f rfl rfl rfl (by omega)) ?_
              refine RG_val rfl rfl (fun _ => rfl) (fun _ => X_pick_f rfl rfl rfl) ?_
              refine RG_val rfl rfl (fun _ => rfl) (fun _ => X_move rfl rfl) ?_
              refine RG_val rfl rfl (fun _ => rfl) (fun _ => X_fieldAddr rfl rfl rfl (by simp only [Nat.zero_add] <;> rfl)) ?_
              refine RG_val rfl rfl (fun _ => rfl) (fun _ => X_load1 rfl rfl (by exact idx0) rfl rfl) ?_
              refine RG_val rfl rfl (fun _ => rfl) (fun _ => X_callv rfl rfl rfl Try.func33 rfl (by assumption)) ?_
              refine RG_val rfl rfl (fun _ => rfl) (fun _ => X_fieldAddr rfl rfl rfl (by simp only [Nat.zero_add] <;> rfl)) ?_
              refine RG_val rfl rfl (fun _ => rfl) (fun _ => X_load1 rfl rfl (by exact idx1) rfl rfl) ?_
              refine RG_val rfl rfl (fun _ => rfl) (fun _ => X_neq_t rfl rfl rfl (by omega)) ?_
              refine RG_val rfl rfl (fun _ => rfl) (fun _ => X_pick_f rfl rfl rfl) ?_
              refine RG_val rfl rfl (fun _ => rfl) (fun _ => X_move rfl rfl) ?_
              refine RG_off rfl rfl (fun _ => rfl) ?_
              refine RG_off rfl rfl (fun _ => rfl) ?_
              refine RG_off rfl rfl (fun _ => rfl) ?_
              refine RG_nil ?_
              refine RG_endv rfl (fun vs => by simp only [endE, List.cons_append, List.nil_append] <;> rfl) (fun vs => rfl) ?_
              refine WL_off rfl rfl rfl ?_
              refine WL_off rfl rfl rfl ?_
              refine WL_is (X_pick_t rfl rfl rfl) rfl rfl rfl ?_
              (repeat (first | refine WL_nil ?_ | refine Then_normal ?_ | refine W_seq ?_ | refine W_true rfl ?_))
              skip
              refine W_region rfl ?_
              refine WL_store rfl rfl rfl (by exact idx4) rfl rfl rfl rfl rfl rfl rfl rfl rfl ?_
              (repeat (first | refine WL_nil ?_ | refine Then_normal ?_ | refine W_ret ?_ | refine inBlk_ret ?_))
              exact ⟨⟨_, 2⟩, .skip _ (.skip _ (SubR.refl _)), rfl, rfl, hbad (by rw [hap]; exact hno)⟩
          · have hno : (okS (p, x) && decide (¬ x.nm ∈ nms l)) = false := by simp [okS, hce]
            skip
            refine W_draw0 21 rfl rfl rfl rfl ?_
            refine RG_val rfl rfl (fun _ => rfl) (fun _ => X_loadA rfl rfl (by exact idx0) rfl rfl rfl) ?_
            refine RG_val rfl rfl (fun _ => rfl) (fun _ => X_callv rfl rfl rfl Try.func31 rfl (by assumption)) ?_
            refine RG_val rfl rfl (fun _ => rfl) (fun _ => X_not rfl rfl) ?_
            refine RG_val rfl rfl (fun _ => rfl) (fun _ => X_move rfl rfl) ?_
            refine RG_val rfl rfl (fun _ => rfl) (fun _ => X_fieldAddr rfl rfl rfl (by simp only [Nat.zero_add] <;> rfl)) ?_
            refine RG_val rfl rfl (fun _ => rfl) (fun _ => X_load1 rfl rfl (by exact idx0) rfl rfl) ?_
            refine RG_val rfl rfl (fun _ => rfl) (fun _ => X_callv rfl rfl rfl Try.func32 rfl (by assumption)) ?_
            refine RG_val rfl rfl (fun _ => rfl) (fun _ => X_neq_t rfl rfl rfl (by omega)) ?_
            refine RG_val rfl rfl (fun _ => rfl) (fun _ => X_pick_f rfl rfl rfl) ?_
            refine RG_val rfl rfl (fun _ => rfl) (fun _ => X_move rfl rfl) ?_
            refine RG_off rfl rfl (fun _ => rfl) ?_
            refine RG_off rfl rfl (fun _ => rfl) ?_
            refine RG_off rfl rfl (fun _ => rfl) ?_
            refine RG_off rfl rfl (fun _ => rfl) ?_
            refine RG_off rfl rfl (fun _ => rfl) ?_
            refine RG_off rfl rfl (fun _ => rfl) ?_
            refine RG_val rfl rfl (fun _ => rfl) (fun _ => X_pick_t rfl rfl rfl) ?_
            refine RG_val rfl rfl (fun _ => rfl) (fun _ => X_move rfl rfl) ?_
            refine RG_off rfl rfl (fun _ => rfl) ?_
            refine RG_off rfl rfl (fun _ => rfl) ?_
            refine RG_off rfl rfl (fun _ => rfl) ?_
            refine RG_nil ?_
            refine RG_endv rfl (fun vs => by simp only [endE, List.cons_append, List.nil_append] <;> rfl) (fun vs => rfl) ?_
            refine WL_off rfl rfl rfl ?_
            refine WL_off rfl rfl rfl ?_
            refine WL_is (X_pick_t rfl rfl rfl) rfl rfl rfl ?_
            (repeat (first | refine WL_nil ?_ | refine Then_normal ?_ | refine W_seq ?_ | refine W_true rfl ?_))
            skip
            refine W_region rfl ?_
            refine WL_store rfl rfl rfl (by exact idx4) rfl rfl rfl rfl rfl rfl rfl rfl rfl ?_
            (repeat (first | refine WL_nil ?_ | refine Then_normal ?_ | refine W_ret ?_ | refine inBlk_ret ?_))
            exact ⟨⟨_, 2⟩, .skip _ (.skip _ (SubR.refl _)), rfl, rfl, hbad (by rw [hap]; exact hno)⟩
    · rintro b3 ⟨M, e⟩ H4 L4 ⟨he, hgo, hme⟩
      dsimp only at he hgo hme ⊢
      subst he
      rw [List.take_length] at hgo
      simp only [List.cons_append, List.nil_append]
      (repeat (first | refine Then_normal ?_ | refine W_seq ?_ | refine inBlk_normal ?_))
      skip
      refine W_region rfl ?_
      refine WL_store rfl rfl rfl (by exact idx2) rfl rfl rfl rfl rfl rfl rfl rfl rfl ?_
      (repeat (first | refine WL_nil ?_ | refine Then_normal ?_ | refine W_ret ?_))
      refine BodyM_1 (SubR.of_perm (perm_front 3 rfl)) ?_
      refine Body_vals (.cons (.cell1 rfl idx2 rfl rfl) .nil) rfl ?_
      refine UpdE.of (Upd.sub (SubR.none _)) ?_
      have : mayD d = true := by unfold mayD allL; rw [hgo, decide_eq_true hmax]; rfl
      rw [checkD, if_pos this]
    · rintro b i c ⟨M, e⟩ H4 L4 hi ⟨rfl, he, hf⟩
      dsimp only at he
      subst he
      simp only [QJ, List.cons_append, List.nil_append]
      (repeat (first | refine Then_ret ?_ | refine inBlk_ret ?_))
      refine BodyM_1 (SubR.of_perm (perm_front 3 rfl)) ?_
      refine Body_vals (.cons (.cell1 rfl idx2 rfl rfl) .nil) rfl ?_
      refine UpdE.of (Upd.sub (SubR.none _)) ?_
      rw [checkD, hf]; rfl
end Go.Proofs.Ytgpanbmjmpondaa
