/- Directories: names put and taken (dir.Put, dir.Take). -/
import Derived.Test.YtgpanbmjmpondaaDirK
namespace Go.Proofs.Ytgpanbmjmpondaa
set_option maxRecDepth 4000
open Go Go.Par PH
def dr0 : Dr := ⟨[], [], [], []⟩
def withP (d : Dr) (p : Spo) (x : Slo) : Dr := withD d p.b.toNat p.c.toNat p.s.toNat x
def putR (d : Dr) (x : Slo) : Dr × Int := if mayD d = true ∧ mayS x = true then (if (roomR d x.nm).2.2 = 0 then (withP d (roomR d x.nm).1 x, 0) else (dr0, (roomR d x.nm).2.2)) else (dr0, 2)
def takeR (d : Dr) (s : Bs) : Dr × Int := if (findR d s).2.2 = 0 then (withP d (findR d s).1 slo0, 0) else (dr0, (findR d s).2.2)
def DirA (q : Dr × Int) (r : Value) (h : PH) : Prop := ∃ w, r = .tuple #[w, .int .i64 q.2] ∧ DrV h w q.1
theorem DrV.nil {h : PH} : DrV h (drV (.slice none 0 0) (.slice none 0 0) (.slice none 0 0) (.slice none 0 0)) dr0 := ⟨_, _, _, _, rfl, Sl.nil, Sl.nil, Sl.nil, Sl.nil⟩
def spotIn (d : Dr) (p : Spo) : Prop := ∃ k c s : Nat, p = ⟨k, c, s⟩ ∧ k < 4 ∧ c ≤ (d.row k).length ∧ s < 10
theorem emR_lt {r : List Chu} (ht : tenR r) {n : Nat} (h : emR r = some n) : n < r.length * 10 ∧ (cellsR r)[n]? = some slo0 := by
  unfold emR at h
  rw [List.findIdx?_eq_some_iff_getElem] at h
  obtain ⟨hl, he, _⟩ := h
  rw [← cells_len r ht]
  exact ⟨hl, by rw [List.getElem?_eq_getElem hl]; simpa using he⟩
theorem roomR_ok {d : Dr} (hte : ∀ k, k < 4 → tenR (d.row k)) {s : Bs} (h : (roomR d s).2.2 = 0) : spotIn d (roomR d s).1 := by
  obtain ⟨k, hk, hk4⟩ := bucket_ok s
  unfold roomR at h ⊢
  rw [hk] at h ⊢
  simp only [Int.toNat_natCast] at h ⊢
  split
  · rename_i hm
    rw [if_pos hm] at h
    cases hf : fndL s (allL d) with
    | some q => rw [hf] at h; exact absurd h (by simp)
    | none =>
      rw [hf] at h
      dsimp only at h ⊢
      cases he : emR (d.row k) with
      | some n =>
        have := (emR_lt (hte k hk4) he).1
        exact ⟨k, n / 10, n % 10, rfl, hk4, by omega, by omega⟩
      | none =>
        rw [he] at h
        dsimp only at h ⊢
        split
        · rename_i h5; rw [if_pos h5] at h; exact absurd h (by simp)
        · exact ⟨k, _, 0, rfl, hk4, Nat.le_refl _, by omega⟩
  · rename_i hm
    rw [if_neg hm] at h; exact absurd h (by simp)
theorem fnd_mem {s : Bs} {l : List (Spo × Slo)} {e : Spo × Slo} (h : fndL s l = some e) : e ∈ l ∧ e.2.nm = s := by
  unfold fndL at h
  exact ⟨List.mem_of_find?_eq_some h, by have := List.find?_some h; simpa using this⟩
theorem all_slots {d : Dr} {e : Spo × Slo} (h : e ∈ allL d) : e ∈ slotsL d ∧ ¬ e.2 = slo0 := by
  unfold allL neL at h
  rw [List.mem_filter] at h
  exact ⟨h.1, by simpa using h.2⟩
theorem findR_ok {d : Dr} {s : Bs} (h : (findR d s).2.2 = 0) : mayD d = true ∧ fndL s (allL d) = some ((findR d s).1, (findR d s).2.1) ∧ spotIn d (findR d s).1 := by
  unfold findR at h ⊢
  split
  · rename_i hm
    rw [if_pos hm] at h
    cases hf : fndL s (allL d) with
    | none => rw [hf] at h; exact absurd h (by simp)
    | some e =>
      obtain ⟨k, c, i, hk, hi, hc, h1, _⟩ := slots_ok (all_slots (fnd_mem hf).1).1
      exact ⟨hm, rfl, k, c, i, h1, hk, by omega, hi⟩
  · rename_i hm
    rw [if_neg hm] at h; exact absurd h (by simp)
attribute [local irreducible] W WL Does Exec Body Then inBlk RG WR row obj pblk
set_option maxHeartbeats 2000000 in
theorem put_fn (h : PH) (v : Value) (d : Dr) (x : Slo) (hv : DrV h v d) (hb : maxR d ≤ 1000000) (hn : nmsOk d) (hx : x.nm.length ≤ 1000000) : Does Try.prog 22 [v, sloV x] [] h (Ret fun r R' h' => DirA (putR d x) r h' ∧ R' = []) := by
  have hrm := room_fn h v d x.nm hv hb hn hx
  have hck := check_fn h v d hv hb hn
  have hms := mayS_fn h x
  have hro := roomR_ok hv.ten (s := x.nm)
  have hwi := fun k c s => with_fn h v d k c s x hv hb
  obtain ⟨x0, x1, x2, x3, rfl, h0, h1, h2, h3⟩ := hv
  obtain ⟨_, _, rfl⟩ := h0.shape
  obtain ⟨_, _, rfl⟩ := h1.shape
  obtain ⟨_, _, rfl⟩ := h2.shape
  obtain ⟨_, _, rfl⟩ := h3.shape
  unfold putR withP
  obtain ⟨p, f, e, hr⟩ : ∃ p f e, roomR d x.nm = (p, f, e) := ⟨_, _, _, rfl⟩
  rw [hr] at hrm hro ⊢
  dsimp only at hro ⊢
  unfold roomV spoV at hrm
  unfold spoV at hwi
  unfold sloV at hms hwi ⊢
  unfold drV at hrm hck hwi ⊢
  unfold checkD at hck
  dsimp only at hrm
  refine Does_of_W Try.func22 rfl (n := 34) rfl rfl (by simp only [argE, Nat.reduceAdd] <;> rfl) ?_
  (repeat (first | refine W_seq ?_))
  refine W_region rfl ?_
  (refine WL_box rfl rfl rfl rfl rfl rfl ?_; intro b_)
  (refine WL_box rfl rfl rfl rfl rfl rfl ?_; intro b_)
  (refine WL_alloc rfl rfl rfl rfl rfl rfl ?_; intro b_)
  refine WL_is (X_assign rfl rfl) rfl rfl rfl ?_
  (repeat (first | refine WL_nil ?_ | refine Then_normal ?_ | refine W_seq ?_))
  cases hm : mayD d with
  | false =>
    rw [hm, if_neg (by decide)] at hck
    rw [if_neg (by simp)]
    skip
    refine W_region rfl ?_
    refine WL_is (X_loadA rfl rfl (by exact idx2) rfl rfl rfl) rfl rfl rfl ?_
    refine WL_is (X_fieldAddr rfl rfl rfl (by simp only [Nat.zero_add] <;> rfl)) rfl rfl rfl ?_
    refine WL_is (X_load1 rfl rfl (by exact idx1) rfl rfl) rfl rfl rfl ?_
    refine WL_is (X_callv rfl rfl rfl Try.func12 rfl (by assumption)) rfl rfl rfl ?_
    refine WL_is (X_move rfl rfl) rfl rfl rfl ?_
    refine WL_is (X_extract rfl rfl rfl) rfl rfl rfl ?_
    refine WL_is (X_extract rfl rfl rfl) rfl rfl rfl ?_
    refine WL_is (X_extract rfl rfl rfl) rfl rfl rfl ?_
    (refine WL_alloc rfl rfl rfl rfl rfl rfl ?_; intro b_)
    refine WL_store rfl rfl rfl (by exact idx0) rfl rfl rfl rfl rfl rfl rfl rfl rfl ?_
    refine WL_is (X_assign rfl rfl) rfl rfl rfl ?_
    refine WL_is (X_assign rfl rfl) rfl rfl rfl ?_
    (repeat (first | refine WL_nil ?_ | refine Then_normal ?_ | refine W_seq ?_ | refine W_block ?_))
    skip
    refine W_region rfl ?_
    refine WL_is (X_loadA rfl rfl (by exact idx3) rfl rfl rfl) rfl rfl rfl ?_
    refine WL_is (X_callv rfl rfl rfl Try.func10 rfl (by assumption)) rfl rfl rfl ?_
    refine WL_is (X_neq_t rfl rfl rfl (by omega)) rfl rfl rfl ?_
    refine WL_is (X_assign rfl rfl) rfl rfl rfl ?_
    (repeat (first | refine WL_nil ?_ | refine Then_normal ?_ | refine W_seq ?_ | refine W_skip ?_ | refine W_true rfl ?_))
    skip
    refine W_region rfl ?_
    refine WL_is (X_build rfl rfl rfl) rfl rfl rfl ?_
    refine WL_store rfl rfl rfl (by exact idx1) rfl rfl rfl rfl rfl rfl rfl rfl rfl ?_
    refine WL_is (X_assign rfl rfl) rfl rfl rfl ?_
    (repeat (first | refine WL_nil ?_ | refine Then_normal ?_ | refine W_ret ?_ | refine Then_ret ?_ | refine inBlk_ret ?_))
    refine Body_vals (.cons (.cellA rfl idx1 rfl rfl rfl) (.cons (.tmp rfl) .nil)) rfl ?_
    exact UpdE.of (Upd.sub (SubR.none _)) ⟨⟨_, rfl, DrV.nil⟩, rfl⟩
  | true =>
    rw [hm, if_pos rfl] at hck
    cases hma : mayS x with
    | false =>
      rw [hma] at hms
      rw [if_neg (by simp)]
      skip
      refine W_region rfl ?_
      refine WL_is (X_loadA rfl rfl (by exact idx2) rfl rfl rfl) rfl rfl rfl ?_
      refine WL_is (X_fieldAddr rfl rfl rfl (by simp only [Nat.zero_add] <;> rfl)) rfl rfl rfl ?_
      refine WL_is (X_load1 rfl rfl (by exact idx1) rfl rfl) rfl rfl rfl ?_
      refine WL_is (X_callv rfl rfl rfl Try.func12 rfl (by assumption)) rfl rfl rfl ?_
      refine WL_is (X_move rfl rfl) rfl rfl rfl ?_
      refine WL_is (X_extract rfl rfl rfl) rfl rfl rfl ?_
      refine WL_is (X_extract rfl rfl rfl) rfl rfl rfl ?_
      refine WL_is (X_extract rfl rfl rfl) rfl rfl rfl ?_
      (refine WL_alloc rfl rfl rfl rfl rfl rfl ?_; intro b_)
      refine WL_store rfl rfl rfl (by exact idx0) rfl rfl rfl rfl rfl rfl rfl rfl rfl ?_
      refine WL_is (X_assign rfl rfl) rfl rfl rfl ?_
      refine WL_is (X_assign rfl rfl) rfl rfl rfl ?_
      (repeat (first | refine WL_nil ?_ | refine Then_normal ?_ | refine W_seq ?_ | refine W_block ?_))
      skip
      refine W_region rfl ?_
      refine WL_is (X_loadA rfl rfl (by exact idx3) rfl rfl rfl) rfl rfl rfl ?_
      refine WL_is (X_callv rfl rfl rfl Try.func10 rfl (by assumption)) rfl rfl rfl ?_
      refine WL_is (X_neq_f rfl rfl rfl (by omega)) rfl rfl rfl ?_
      refine WL_is (X_assign rfl rfl) rfl rfl rfl ?_
      (repeat (first | refine WL_nil ?_ | refine Then_normal ?_ | refine W_false rfl ?_))
      skip
      refine W_region rfl ?_
      refine WL_is (X_loadA rfl rfl (by exact idx2) rfl rfl rfl) rfl rfl rfl ?_
      refine WL_is (X_callv rfl rfl rfl Try.func31 rfl (by assumption)) rfl rfl rfl ?_
      refine WL_is (X_not rfl rfl) rfl rfl rfl ?_
      refine WL_is (X_assign rfl rfl) rfl rfl rfl ?_
      (repeat (first | refine WL_nil ?_ | refine Then_normal ?_ | refine W_seq ?_ | refine W_true rfl ?_))
      skip
      refine W_region rfl ?_
      refine WL_is (X_build rfl rfl rfl) rfl rfl rfl ?_
      refine WL_store rfl rfl rfl (by exact idx1) rfl rfl rfl rfl rfl rfl rfl rfl rfl ?_
      refine WL_is (X_assign rfl rfl) rfl rfl rfl ?_
      (repeat (first | refine WL_nil ?_ | refine Then_normal ?_ | refine W_ret ?_ | refine Then_ret ?_ | refine inBlk_ret ?_))
      refine Body_vals (.cons (.cellA rfl idx1 rfl rfl rfl) (.cons (.tmp rfl) .nil)) rfl ?_
      exact UpdE.of (Upd.sub (SubR.none _)) ⟨⟨_, rfl, DrV.nil⟩, rfl⟩
    | true =>
      rw [hma] at hms
      rw [if_pos ⟨rfl, rfl⟩]
      by_cases he : e = 0
      · rw [if_pos he]
        obtain ⟨k, c, s, rfl, hk, hc, hs⟩ := hro he
        have hw := hwi k c s hk hc hs
        dsimp only at hw ⊢
        simp only [Int.toNat_natCast]
        skip
        refine W_region rfl ?_
        refine WL_is (X_loadA rfl rfl (by exact idx2) rfl rfl rfl) rfl rfl rfl ?_
        refine WL_is (X_fieldAddr rfl rfl rfl (by simp only [Nat.zero_add] <;> rfl)) rfl rfl rfl ?_
        refine WL_is (X_load1 rfl rfl (by exact idx1) rfl rfl) rfl rfl rfl ?_
        refine WL_is (X_callv rfl rfl rfl Try.func12 rfl (by assumption)) rfl rfl rfl ?_
        refine WL_is (X_move rfl rfl) rfl rfl rfl ?_
        refine WL_is (X_extract rfl rfl rfl) rfl rfl rfl ?_
        refine WL_is (X_extract rfl rfl rfl) rfl rfl rfl ?_
        refine WL_is (X_extract rfl rfl rfl) rfl rfl rfl ?_
        (refine WL_alloc rfl rfl rfl rfl rfl rfl ?_; intro b_)
        refine WL_store rfl rfl rfl (by exact idx0) rfl rfl rfl rfl rfl rfl rfl rfl rfl ?_
        refine WL_is (X_assign rfl rfl) rfl rfl rfl ?_
        refine WL_is (X_assign rfl rfl) rfl rfl rfl ?_
        (repeat (first | refine WL_nil ?_ | refine Then_normal ?_ | refine W_seq ?_ | refine W_block ?_))
        skip
        refine W_region rfl ?_
        refine WL_is (X_loadA rfl rfl (by exact idx3) rfl rfl rfl) rfl rfl rfl ?_
        refine WL_is (X_callv rfl rfl rfl Try.func10 rfl (by assumption)) rfl rfl rfl ?_
        refine WL_is (X_neq_f rfl rfl rfl (by omega)) rfl rfl rfl ?_
        refine WL_is (X_assign rfl rfl) rfl rfl rfl ?_
        (repeat (first | refine WL_nil ?_ | refine Then_normal ?_ | refine W_false rfl ?_))
        skip
        refine W_region rfl ?_
        refine WL_is (X_loadA rfl rfl (by exact idx2) rfl rfl rfl) rfl rfl rfl ?_
        refine WL_is (X_callv rfl rfl rfl Try.func31 rfl (by assumption)) rfl rfl rfl ?_
        refine WL_is (X_not rfl rfl) rfl rfl rfl ?_
        refine WL_is (X_assign rfl rfl) rfl rfl rfl ?_
        (repeat (first | refine WL_nil ?_ | refine Then_normal ?_ | refine W_seq ?_ | refine W_false rfl ?_))
        skip
        refine W_region rfl ?_
        refine WL_is (X_move rfl rfl) rfl rfl rfl ?_
        refine WL_is (X_neq_f rfl rfl rfl (by omega)) rfl rfl rfl ?_
        refine WL_is (X_assign rfl rfl) rfl rfl rfl ?_
        (repeat (first | refine WL_nil ?_ | refine Then_normal ?_ | refine W_seq ?_ | refine W_skip ?_ | refine inBlk_normal ?_ | refine W_false rfl ?_))
        skip
        refine W_region rfl ?_
        refine WL_is (X_loadA rfl rfl (by exact idx3) rfl rfl rfl) rfl rfl rfl ?_
        refine WL_is (X_loadA rfl rfl (by exact idx0) rfl rfl rfl) rfl rfl rfl ?_
        refine WL_is (X_loadA rfl rfl (by exact idx2) rfl rfl rfl) rfl rfl rfl ?_
        refine WL_call rfl rfl rfl Try.func37 rfl rfl rfl rfl hw ?_
        rintro _ _ H1 L1 ⟨hv2, rfl⟩
        simp only [List.nil_append]
        obtain ⟨y0, y1, y2, y3, rfl, g0, g1, g2, g3⟩ := hv2
        obtain ⟨_, _, e0⟩ := g0.shape
        obtain ⟨_, _, e1⟩ := g1.shape
        obtain ⟨_, _, e2⟩ := g2.shape
        obtain ⟨_, _, e3⟩ := g3.shape
        subst e0; subst e1; subst e2; subst e3
        unfold drV
        refine WL_store rfl rfl rfl (by exact idx1) rfl rfl rfl rfl rfl rfl rfl rfl rfl ?_
        refine WL_is (X_assign rfl rfl) rfl rfl rfl ?_
        (repeat (first | refine WL_nil ?_ | refine Then_normal ?_ | refine W_ret ?_))
        refine Body_vals (.cons (.cellA rfl idx1 rfl rfl rfl) (.cons (.tmp rfl) .nil)) rfl ?_
        exact UpdE.of (Upd.sub (SubR.none _)) ⟨⟨_, rfl, _, _, _, _, rfl, g0, g1, g2, g3⟩, rfl⟩
      · rw [if_neg he]
        skip
        refine W_region rfl ?_
        refine WL_is (X_loadA rfl rfl (by exact idx2) rfl rfl rfl) rfl rfl rfl ?_
        refine WL_is (X_fieldAddr rfl rfl rfl (by simp only [Nat.zero_add] <;> rfl)) rfl rfl rfl ?_
        refine WL_is (X_load1 rfl rfl (by exact idx1) rfl rfl) rfl rfl rfl ?_
        refine WL_is (X_callv rfl rfl rfl Try.func12 rfl (by assumption)) rfl rfl rfl ?_
        refine WL_is (X_move rfl rfl) rfl rfl rfl ?_
        refine WL_is (X_extract rfl rfl rfl) rfl rfl rfl ?_
        refine WL_is (X_extract rfl rfl rfl) rfl rfl rfl ?_
        refine WL_is (X_extract rfl rfl rfl) rfl rfl rfl ?_
        (refine WL_alloc rfl rfl rfl rfl rfl rfl ?_; intro b_)
        refine WL_store rfl rfl rfl (by exact idx0) rfl rfl rfl rfl rfl rfl rfl rfl rfl ?_
        refine WL_is (X_assign rfl rfl) rfl rfl rfl ?_
        refine WL_is (X_assign rfl rfl) rfl rfl rfl ?_
        (repeat (first | refine WL_nil ?_ | refine Then_normal ?_ | refine W_seq ?_ | refine W_block ?_))
        skip
        refine W_region rfl ?_
        refine WL_is (X_loadA rfl rfl (by exact idx3) rfl rfl rfl) rfl rfl rfl ?_
        refine WL_is (X_callv rfl rfl rfl Try.func10 rfl (by assumption)) rfl rfl rfl ?_
        refine WL_is (X_neq_f rfl rfl rfl (by omega)) rfl rfl rfl ?_
        refine WL_is (X_assign rfl rfl) rfl rfl rfl ?_
        (repeat (first | refine WL_nil ?_ | refine Then_normal ?_ | refine W_false rfl ?_))
        skip
        refine W_region rfl ?_
        refine WL_is (X_loadA rfl rfl (by exact idx2) rfl rfl rfl) rfl rfl rfl ?_
        refine WL_is (X_callv rfl rfl rfl Try.func31 rfl (by assumption)) rfl rfl rfl ?_
        refine WL_is (X_not rfl rfl) rfl rfl rfl ?_
        refine WL_is (X_assign rfl rfl) rfl rfl rfl ?_
        (repeat (first | refine WL_nil ?_ | refine Then_normal ?_ | refine W_seq ?_ | refine W_false rfl ?_))
        skip
        refine W_region rfl ?_
        refine WL_is (X_move rfl rfl) rfl rfl rfl ?_
        refine WL_is (X_neq_t rfl rfl rfl (by omega)) rfl rfl rfl ?_
        refine WL_is (X_assign rfl rfl) rfl rfl rfl ?_
        (repeat (first | refine WL_nil ?_ | refine Then_normal ?_ | refine W_seq ?_ | refine W_true rfl ?_))
        skip
        refine W_region rfl ?_
        refine WL_is (X_build rfl rfl rfl) rfl rfl rfl ?_
        refine WL_is (X_move rfl rfl) rfl rfl rfl ?_
        refine WL_store rfl rfl rfl (by exact idx1) rfl rfl rfl rfl rfl rfl rfl rfl rfl ?_
        refine WL_is (X_assign rfl rfl) rfl rfl rfl ?_
        (repeat (first | refine WL_nil ?_ | refine Then_normal ?_ | refine W_ret ?_ | refine Then_ret ?_ | refine inBlk_ret ?_))
        refine Body_vals (.cons (.cellA rfl idx1 rfl rfl rfl) (.cons (.tmp rfl) .nil)) rfl ?_
        exact UpdE.of (Upd.sub (SubR.none _)) ⟨⟨_, rfl, DrV.nil⟩, rfl⟩
set_option maxHeartbeats 2000000 in
theorem take_fn (h : PH) (v : Value) (d : Dr) (s : Bs) (hv : DrV h v d) (hb : maxR d ≤ 1000000) (hn : nmsOk d) : Does Try.prog 23 [v, .string (mkB s)] [] h (Ret fun r R' h' => DirA (takeR d s) r h' ∧ R' = []) := by
  have hrm := find_fn h v d s hv hb hn
  have hro := findR_ok (d := d) (s := s)
  have hwi := fun k c s => with_fn h v d k c s slo0 hv hb
  obtain ⟨x0, x1, x2, x3, rfl, h0, h1, h2, h3⟩ := hv
  obtain ⟨_, _, rfl⟩ := h0.shape
  obtain ⟨_, _, rfl⟩ := h1.shape
  obtain ⟨_, _, rfl⟩ := h2.shape
  obtain ⟨_, _, rfl⟩ := h3.shape
  unfold takeR withP
  obtain ⟨p, f, e, hr⟩ : ∃ p f e, findR d s = (p, f, e) := ⟨_, _, _, rfl⟩
  rw [hr] at hrm hro ⊢
  dsimp only at hro ⊢
  unfold findV spoV sloV at hrm
  unfold spoV sloV at hwi
  unfold drV at hrm hwi ⊢
  dsimp only at hrm
  refine Does_of_W Try.func23 rfl (n := 24) rfl rfl (by simp only [argE, Nat.reduceAdd] <;> rfl) ?_
  (repeat (first | refine W_seq ?_))
  refine W_region rfl ?_
  (refine WL_box rfl rfl rfl rfl rfl rfl ?_; intro b_)
  (refine WL_alloc rfl rfl rfl rfl rfl rfl ?_; intro b_)
  refine WL_is (X_assign rfl rfl) rfl rfl rfl ?_
  (repeat (first | refine WL_nil ?_ | refine Then_normal ?_ | refine W_seq ?_))
  by_cases he : e = 0
  · rw [if_pos he]
    obtain ⟨hm, hf, k, c, s, rfl, hk, hc, hs⟩ := hro he
    have hw := hwi k c s hk hc hs
    dsimp only at hw ⊢
    simp only [Int.toNat_natCast]
    skip
    refine W_region rfl ?_
    refine WL_is (X_loadA rfl rfl (by exact idx1) rfl rfl rfl) rfl rfl rfl ?_
    refine WL_is (X_move rfl rfl) rfl rfl rfl ?_
    refine WL_is (X_callv rfl rfl rfl Try.func11 rfl (by assumption)) rfl rfl rfl ?_
    refine WL_is (X_move rfl rfl) rfl rfl rfl ?_
    refine WL_is (X_extract rfl rfl rfl) rfl rfl rfl ?_
    refine WL_is (X_extract rfl rfl rfl) rfl rfl rfl ?_
    refine WL_is (X_extract rfl rfl rfl) rfl rfl rfl ?_
    (refine WL_alloc rfl rfl rfl rfl rfl rfl ?_; intro b_)
    (refine WL_alloc rfl rfl rfl rfl rfl rfl ?_; intro b_)
    refine WL_store rfl rfl rfl (by exact idx1) rfl rfl rfl rfl rfl rfl rfl rfl rfl ?_
    refine WL_store rfl rfl rfl (by exact idx0) rfl rfl rfl rfl rfl rfl rfl rfl rfl ?_
    refine WL_is (X_assign rfl rfl) rfl rfl rfl ?_
    (repeat (first | refine WL_nil ?_ | refine Then_normal ?_ | refine W_seq ?_))
    skip
    refine W_region rfl ?_
    refine WL_is (X_move rfl rfl) rfl rfl rfl ?_
    refine WL_is (X_neq_f rfl rfl rfl (by omega)) rfl rfl rfl ?_
    (repeat (first | refine WL_nil ?_ | refine Then_normal ?_ | refine W_seq ?_ | refine W_skip ?_ | refine W_false rfl ?_))
    skip
    refine W_region rfl ?_
    refine WL_is (X_loadA rfl rfl (by exact idx3) rfl rfl rfl) rfl rfl rfl ?_
    refine WL_is (X_loadA rfl rfl (by exact idx1) rfl rfl rfl) rfl rfl rfl ?_
    refine WL_is (X_build rfl rfl rfl) rfl rfl rfl ?_
    refine WL_call rfl rfl rfl Try.func37 rfl rfl rfl rfl hw ?_
    rintro _ _ H1 L1 ⟨hv2, rfl⟩
    simp only [List.nil_append]
    obtain ⟨y0, y1, y2, y3, rfl, g0, g1, g2, g3⟩ := hv2
    obtain ⟨_, _, e0⟩ := g0.shape
    obtain ⟨_, _, e1⟩ := g1.shape
    obtain ⟨_, _, e2⟩ := g2.shape
    obtain ⟨_, _, e3⟩ := g3.shape
    subst e0; subst e1; subst e2; subst e3
    unfold drV
    refine WL_store rfl rfl rfl (by exact idx2) rfl rfl rfl rfl rfl rfl rfl rfl rfl ?_
    refine WL_is (X_assign rfl rfl) rfl rfl rfl ?_
    (repeat (first | refine WL_nil ?_ | refine Then_normal ?_ | refine W_ret ?_))
    refine Body_vals (.cons (.cellA rfl idx2 rfl rfl rfl) (.cons (.tmp rfl) .nil)) rfl ?_
    exact UpdE.of (Upd.sub (SubR.none _)) ⟨⟨_, rfl, _, _, _, _, rfl, g0, g1, g2, g3⟩, rfl⟩
  · rw [if_neg he]
    skip
    refine W_region rfl ?_
    refine WL_is (X_loadA rfl rfl (by exact idx1) rfl rfl rfl) rfl rfl rfl ?_
    refine WL_is (X_move rfl rfl) rfl rfl rfl ?_
    refine WL_is (X_callv rfl rfl rfl Try.func11 rfl (by assumption)) rfl rfl rfl ?_
    refine WL_is (X_move rfl rfl) rfl rfl rfl ?_
    refine WL_is (X_extract rfl rfl rfl) rfl rfl rfl ?_
    refine WL_is (X_extract rfl rfl rfl) rfl rfl rfl ?_
    refine WL_is (X_extract rfl rfl rfl) rfl rfl rfl ?_
    (refine WL_alloc rfl rfl rfl rfl rfl rfl ?_; intro b_)
    (refine WL_alloc rfl rfl rfl rfl rfl rfl ?_; intro b_)
    refine WL_store rfl rfl rfl (by exact idx1) rfl rfl rfl rfl rfl rfl rfl rfl rfl ?_
    refine WL_store rfl rfl rfl (by exact idx0) rfl rfl rfl rfl rfl rfl rfl rfl rfl ?_
    refine WL_is (X_assign rfl rfl) rfl rfl rfl ?_
    (repeat (first | refine WL_nil ?_ | refine Then_normal ?_ | refine W_seq ?_))
    skip
    refine W_region rfl ?_
    refine WL_is (X_move rfl rfl) rfl rfl rfl ?_
    refine WL_is (X_neq_t rfl rfl rfl (by omega)) rfl rfl rfl ?_
    (repeat (first | refine WL_nil ?_ | refine Then_normal ?_ | refine W_seq ?_ | refine W_true rfl ?_))
    skip
    refine W_region rfl ?_
    refine WL_is (X_build rfl rfl rfl) rfl rfl rfl ?_
    refine WL_is (X_move rfl rfl) rfl rfl rfl ?_
    refine WL_store rfl rfl rfl (by exact idx2) rfl rfl rfl rfl rfl rfl rfl rfl rfl ?_
    refine WL_is (X_assign rfl rfl) rfl rfl rfl ?_
    (repeat (first | refine WL_nil ?_ | refine Then_normal ?_ | refine W_ret ?_ | refine Then_ret ?_))
    refine Body_vals (.cons (.cellA rfl idx2 rfl rfl rfl) (.cons (.tmp rfl) .nil)) rfl ?_
    exact UpdE.of (Upd.sub (SubR.none _)) ⟨⟨_, rfl, DrV.nil⟩, rfl⟩
end Go.Proofs.Ytgpanbmjmpondaa
