/- Files: which pieces a text is, by the document. -/
import Derived.Test.YtoocbfpomamdeaaFileD
namespace Go.Proofs.Ytoocbfpomamdeaa
set_option maxRecDepth 4000
open Go Go.Par PH
abbrev Pc := Int × Int × Int × ByteArray
instance decP : Dec encP 4 where
  len _ := rfl
  dec c := match c with
    | [.int .i64 a, .int .i64 b, .int .i64 d, .string t] => some (a, b, d, t)
    | _ => none
  ok c x h := by
    revert h
    split
    · intro h; cases h; rfl
    · intro h; cases h
theorem cntP_new {off i : Nat} (h : i = 0 ∨ (off + i) % 8 = 0) : cntP off (i + 1) = cntP off i + 1 ∧ stP off (cntP off i) = i := by
  unfold cntP stP
  rw [if_neg (by omega : ¬ i + 1 = 0)]
  by_cases h0 : i = 0
  · subst h0; simp; omega
  · rw [if_neg h0]
    have : (off + i) % 8 = 0 := h.resolve_left h0
    rw [if_neg (by omega)]
    omega
theorem cntP_old {off i : Nat} (h0 : ¬ i = 0) (h : ¬ (off + i) % 8 = 0) : cntP off (i + 1) = cntP off i ∧ 0 < cntP off i ∧ stP off (cntP off i - 1) < i ∧ i < stP off (cntP off i) := by
  unfold cntP stP
  rw [if_neg (by omega : ¬ i + 1 = 0), if_neg h0]
  refine ⟨by omega, by omega, ?_, ?_⟩ <;> split <;> omega
theorem stP_mono {off : Nat} : ∀ {j k : Nat}, j ≤ k → stP off j ≤ stP off k := by
  intro j k h
  unfold stP
  split <;> split <;> omega
theorem pcsTo_get {m : List Int} {off : Nat} {s : ByteArray} {lim j k : Nat} (h : k < (pcsTo m off s lim j).length) : (pcsTo m off s lim j)[k] = pieceP m off s lim k := by
  simp [pcsTo]
theorem pcsTo_lim {m : List Int} {off : Nat} {s : ByteArray} {i i2 : Nat} : ∀ {j : Nat}, (∀ k, k < j → stP off (k + 1) ≤ i) → i ≤ i2 → pcsTo m off s i j = pcsTo m off s i2 j
  | 0, _, _ => rfl
  | j + 1, h, h2 => by
    rw [pcsTo_succ, pcsTo_succ, pcsTo_lim (fun k hk => h k (by omega)) h2]
    have := h j (by omega)
    simp only [pieceP]
    rw [Nat.min_eq_right this, Nat.min_eq_right (by omega)]
theorem set_end {α : Type} {l : List α} {x y : α} : (l ++ [x]).set l.length y = l ++ [y] := by
  rw [List.set_append]; simp
/-- What is there behind a byte more, where a piece begins. -/
theorem pcs_new {m : List Int} {off : Nat} {s : ByteArray} {i : Nat} (hi : i < s.size) (h : i = 0 ∨ (off + i) % 8 = 0) :
    pcsTo m off s i (cntP off i) ++ [(m[(off + i) / 256]?.getD 0, (((off + i) % 256 / 8 : Nat) : Int), (((off + i) % 8 : Nat) : Int), s.extract i (i + 1))] = pcsTo m off s (i + 1) (cntP off (i + 1)) := by
  obtain ⟨e1, e2⟩ := cntP_new h
  rw [e1, pcsTo_succ]
  congr 1
  · refine pcsTo_lim (fun k hk => ?_) (Nat.le_succ i)
    have := stP_mono (off := off) (j := k + 1) (k := cntP off i) (by omega)
    omega
  · simp only [pieceP, e2]
    have hm : min (i + 1) (stP off (cntP off i + 1)) = i + 1 := by rw [stP_succ]; have := e2; unfold stP at this; split at this <;> omega
    rw [hm]
theorem pcs_old {m : List Int} {off : Nat} {s : ByteArray} {i : Nat} (hi : i < s.size) (h0 : ¬ i = 0) (h : ¬ (off + i) % 8 = 0) (p : Pc) (hp : p = pieceP m off s i (cntP off i - 1)) :
    (pcsTo m off s i (cntP off i)).set (cntP off i - 1) (p.1, p.2.1, p.2.2.1, p.2.2.2 ++ s.extract i (i + 1)) = pcsTo m off s (i + 1) (cntP off (i + 1)) := by
  obtain ⟨e1, e2, e3, e4⟩ := cntP_old h0 h
  obtain ⟨c, hc⟩ : ∃ c, cntP off i = c + 1 := ⟨cntP off i - 1, by omega⟩
  have e3' : stP off c < i := by rw [hc] at e3; simpa using e3
  have e4' : i < stP off (c + 1) := by rw [← hc]; exact e4
  subst hp
  rw [e1, hc, Nat.add_sub_cancel, pcsTo_succ, pcsTo_succ]
  have hl := pcsTo_len m off s i c
  have hset := fun y => set_end (l := pcsTo m off s i c) (x := pieceP m off s i c) (y := y)
  rw [hl] at hset
  rw [hset]
  congr 1
  · refine pcsTo_lim (fun k hk => ?_) (Nat.le_succ i)
    have := stP_mono (off := off) (j := k + 1) (k := c) (by omega)
    omega
  · simp only [pieceP]
    have m1 : min i (stP off (c + 1)) = i := by omega
    have m2 : min (i + 1) (stP off (c + 1)) = i + 1 := by omega
    rw [m1, m2, ByteArray.extract_append_extract, Nat.min_eq_left (by omega), Nat.max_eq_right (by omega)]
structure PX where
  i : Nat
  v : Value
  h : PH
attribute [local irreducible] W WL Does Exec Body Then inBlk RG WR row obj pblk
set_option maxHeartbeats 4000000 in
theorem pieces_ref (h : PH) (m : List Int) (v : Value) (off : Int) (s : ByteArray) (hv : Sl encI 1 h v m) (hl : m.length ≤ 1000000000) (hs : s.size ≤ 1000000) : Does Try.prog 12 [v, .int .i64 off, .string s] [] h (Ret (PiecesA m off s)) := by
  refine Does_of_W Try.func12 rfl (n := 80) rfl rfl (by simp only [argE, Nat.reduceAdd] <;> rfl) ?_
  (repeat (first | refine W_seq ?_))
  skip
  refine W_region rfl ?_
  refine WL_is (X_assign rfl rfl) rfl rfl rfl ?_
  refine WL_is (X_assign rfl rfl) rfl rfl rfl ?_
  (repeat (first | refine WL_nil ?_ | refine Then_normal ?_ | refine W_seq ?_))
  skip
  refine W_region rfl ?_
  refine WL_is (X_move rfl rfl) rfl rfl rfl ?_
  refine WL_is (X_move rfl rfl) rfl rfl rfl ?_
  refine WL_is (X_move rfl rfl) rfl rfl rfl ?_
  refine WL_is (X_len_str rfl rfl rfl) rfl rfl rfl ?_
  refine WL_call rfl rfl rfl Try.func10 rfl rfl rfl rfl (need_ref h m _ off s.size hv hl) ?_
  rintro _ _ H2 L2 ⟨rfl, w, rfl, hw⟩
  have hv2 := hv.mono L2
  obtain ⟨wa, wc, rfl⟩ := hw.shape
  simp only [List.nil_append]
  by_cases he : needE m off s.size = 0
  · obtain ⟨hM, g1, g2, g3, g4⟩ := needE_ok he
    have hml := mayM_len hM
    rw [he]
    by_cases hn : 0 < (needL m off s.size).length
    · have hn' : ((needL m off s.size).length : Int) > 0 := by omega
      refine WL_is (X_move rfl rfl) rfl rfl rfl ?_
      refine WL_is (X_extract rfl rfl rfl) rfl rfl rfl ?_
      refine WL_is (X_extract rfl rfl rfl) rfl rfl rfl ?_
      refine WL_is (X_assign rfl rfl) rfl rfl rfl ?_
      refine WL_is (X_assign rfl rfl) rfl rfl rfl ?_
      (repeat (first | refine WL_nil ?_ | refine Then_normal ?_ | refine W_seq ?_))
      skip
      refine W_region rfl ?_
      refine WL_is (X_move rfl rfl) rfl rfl rfl ?_
      refine WL_is (X_neq_f rfl rfl rfl (by omega)) rfl rfl rfl ?_
      (repeat (first | refine WL_nil ?_ | refine Then_normal ?_ | refine W_seq ?_ | refine W_skip ?_ | refine W_false rfl ?_))
      skip
      refine W_region rfl ?_
      refine WL_is (X_move rfl rfl) rfl rfl rfl ?_
      refine WL_is (X_len_sl rfl rfl rfl (by assumption)) rfl rfl rfl ?_
      refine WL_is (X_gtr_t rfl rfl rfl (by omega)) rfl rfl rfl ?_
      (repeat (first | refine WL_nil ?_ | refine Then_normal ?_ | refine W_seq ?_ | refine W_true rfl ?_))
      skip
      refine W_region rfl ?_
      refine WL_is (X_assign rfl rfl) rfl rfl rfl ?_
      refine WL_is (X_assign rfl rfl) rfl rfl rfl ?_
      (repeat (first | refine WL_nil ?_ | refine Then_normal ?_ | refine W_ret ?_ | refine Then_ret ?_))
      exact Body_end rfl rfl rfl (SubR.none _) (PiecesA.bad (by simp [pcE, he, hn]) (by decide))
    · have hn' : ¬ ((needL m off s.size).length : Int) > 0 := by omega
      have hpe : pcE m off s = 0 := by simp [pcE, he, hn]
      obtain ⟨o, rfl⟩ := Int.eq_ofNat_of_zero_le g1
      refine WL_is (X_move rfl rfl) rfl rfl rfl ?_
      refine WL_is (X_extract rfl rfl rfl) rfl rfl rfl ?_
      refine WL_is (X_extract rfl rfl rfl) rfl rfl rfl ?_
      refine WL_is (X_assign rfl rfl) rfl rfl rfl ?_
      refine WL_is (X_assign rfl rfl) rfl rfl rfl ?_
      (repeat (first | refine WL_nil ?_ | refine Then_normal ?_ | refine W_seq ?_))
      skip
      refine W_region rfl ?_
      refine WL_is (X_move rfl rfl) rfl rfl rfl ?_
      refine WL_is (X_neq_f rfl rfl rfl (by omega)) rfl rfl rfl ?_
      (repeat (first | refine WL_nil ?_ | refine Then_normal ?_ | refine W_seq ?_ | refine W_skip ?_ | refine W_false rfl ?_))
      skip
      refine W_region rfl ?_
      refine WL_is (X_move rfl rfl) rfl rfl rfl ?_
      refine WL_is (X_len_sl rfl rfl rfl (by assumption)) rfl rfl rfl ?_
      refine WL_is (X_gtr_f rfl rfl rfl (by omega)) rfl rfl rfl ?_
      (repeat (first | refine WL_nil ?_ | refine Then_normal ?_ | refine W_seq ?_ | refine W_skip ?_ | refine W_false rfl ?_))
      skip
      refine W_region rfl ?_
      refine WL_is (X_assign rfl rfl) rfl rfl rfl ?_
      (repeat (first | refine WL_nil ?_ | refine Then_normal ?_ | refine W_seq ?_))
      skip
      refine W_region rfl ?_
      refine WL_is (X_assign rfl rfl) rfl rfl rfl ?_
      (repeat (first | refine WL_nil ?_ | refine Then_normal ?_ | refine W_block ?_))
      refine W_upd (Upd.nilrow (e := 32) (sz := 4)) ?_
      refine W_loop (X := PX) (L := fun x => ⟨[(10, x.v), (11, .int .i64 (x.i : Int)), (0, v), (1, .int .i64 (o : Int)), (2, .string s)], [], [rowL encP x.v 32 4 (pcsTo m o s x.i (cntP o x.i))], x.h⟩) (p := fun x => x.i ≤ s.size ∧ le H2 x.h) (μ := fun x => s.size - x.i) ⟨0, .slice none 0 0, H2⟩ ⟨(by repeat (first | exact SubE_nil | refine SubE_cons rfl ?_)), rfl, SubR.refl _, rfl⟩ ⟨Nat.zero_le _, le.refl _⟩ ?_
      rintro ⟨i, x, h3⟩ ⟨hi, hle⟩
      dsimp only at hi hle ⊢
      have hv3 := hv2.mono hle
      have hcl := cntP_le o i
      have hpl := pcsTo_len m o s i (cntP o i)
      by_cases hlt : (i : Int) < s.size
      · have hlt' : i < s.size := by omega
        have hq : (((o : Int) + (i : Int)) / 256).toNat = (o + i) / 256 := by omega
        have hqm : (o + i) / 256 < m.length := by omega
        have hsi : (s.extract (i : Int).toNat ((i : Int) + 1).toNat) = s.extract i (i + 1) := by congr 1 
        have hsz1 : (s.extract i (i + 1)).size = 1 := by rw [ByteArray.size_extract]; omega
        (repeat (first | refine W_seq ?_))
        refine W_region rfl ?_
        refine WL_is (X_move rfl rfl) rfl rfl rfl ?_
        refine WL_is (X_move rfl rfl) rfl rfl rfl ?_
        refine WL_is (X_len_str rfl rfl rfl) rfl rfl rfl ?_
        refine WL_is (X_lss_t rfl rfl rfl (by omega)) rfl rfl rfl ?_
        (repeat (first | refine WL_nil ?_ | refine Then_normal ?_ | refine W_seq ?_ | refine W_skip ?_ | refine W_block ?_ | refine W_true rfl ?_))
        skip
        refine W_region rfl ?_
        refine WL_is (X_move rfl rfl) rfl rfl rfl ?_
        refine WL_is (X_move rfl rfl) rfl rfl rfl ?_
        refine WL_is (X_addW rfl rfl rfl (by exact wrap_i64_in (by omega) (by omega))) rfl rfl rfl ?_
        refine WL_is (X_assign rfl rfl) rfl rfl rfl ?_
        (repeat (first | refine WL_nil ?_ | refine Then_normal ?_ | refine W_seq ?_))
        have hset1 : ∀ np : Pc, np = (m[(((o : Int) + (i : Int)) / 256).toNat]'(by omega), ((o : Int) + (i : Int)) % 256 / 8, ((o : Int) + (i : Int)) % 8, ⟨#[]⟩) → (i = 0 ∨ (o + i) % 8 = 0) →
            (pcsTo m o s i (cntP o i) ++ [np]).set (cntP o i) (np.1, np.2.1, np.2.2.1, np.2.2.2 ++ s.extract i (i + 1)) = pcsTo m o s (i + 1) (cntP o (i + 1)) := by
          rintro np hnp hx
          rw [← pcs_new hlt' hx]
          have := set_end (l := pcsTo m o s i (cntP o i)) (x := np) (y := (np.1, np.2.1, np.2.2.1, np.2.2.2 ++ s.extract i (i + 1)))
          rw [hpl] at this
          rw [this, hnp]
          have htx : (⟨#[]⟩ : ByteArray) ++ s.extract i (i + 1) = s.extract i (i + 1) := ByteArray.empty_append
          have e1 : m[(((o : Int) + (i : Int)) / 256).toNat]'(by omega) = m[(o + i) / 256]?.getD 0 := by simp only [hq]; rw [List.getElem?_eq_getElem hqm]; rfl
          have eA : ((o : Int) + (i : Int)) % 256 / 8 = (((o + i) % 256 / 8 : Nat) : Int) := by omega
          have eB : ((o : Int) + (i : Int)) % 8 = (((o + i) % 8 : Nat) : Int) := by omega
          simp only [htx, e1, eA, eB]
        by_cases hz : (i : Int) = 0
        · have hnew : i = 0 ∨ (o + i) % 8 = 0 := .inl (by omega)
          skip
          refine W_region rfl ?_
          refine WL_is (X_move rfl rfl) rfl rfl rfl ?_
          refine WL_is (X_eql_t rfl rfl rfl (by omega)) rfl rfl rfl ?_
          refine WL_is (X_move rfl rfl) rfl rfl rfl ?_
          refine WL_off rfl rfl rfl ?_
          refine WL_off rfl rfl rfl ?_
          refine WL_off rfl rfl rfl ?_
          refine WL_is (X_pick_t rfl rfl rfl) rfl rfl rfl ?_
          (repeat (first | refine WL_nil ?_ | refine Then_normal ?_ | refine W_true rfl ?_))
          skip
          refine W_region rfl ?_
          refine WL_is (X_move rfl rfl) rfl rfl rfl ?_
          refine WL_is (X_move rfl rfl) rfl rfl rfl ?_
          refine WL_is (X_move rfl rfl) rfl rfl rfl ?_
          refine WL_is (X_quoW rfl rfl rfl (by omega) (by omega) (by exact wrap_i64_in (by omega) (by omega))) rfl rfl rfl ?_
          (refine WL_index_slN rfl rfl rfl rfl rfl (by assumption) (by omega) rfl rfl rfl ?_; intro p_ hp_)
          refine WL_is (X_load1_at rfl rfl (by assumption) rfl rfl) rfl rfl rfl ?_
          refine WL_is (X_move rfl rfl) rfl rfl rfl ?_
          refine WL_is (X_rem rfl rfl rfl (by omega) (by omega)) rfl rfl rfl ?_
          refine WL_is (X_quoW rfl rfl rfl (by omega) (by omega) (by exact wrap_i64_in (by omega) (by omega))) rfl rfl rfl ?_
          refine WL_is (X_move rfl rfl) rfl rfl rfl ?_
          refine WL_is (X_rem rfl rfl rfl (by omega) (by omega)) rfl rfl rfl ?_
          refine WL_is (X_build rfl rfl rfl) rfl rfl rfl ?_
          refine WL_buildSl (enc := encP) [(m[(((o : Int) + (i : Int)) / 256).toNat]'(by omega), ((o : Int) + (i : Int)) % 256 / 8, ((o : Int) + (i : Int)) % 8, ⟨#[]⟩)] (lenP _) rfl rfl rfl rfl rfl rfl rfl rfl rfl rfl rfl rfl rfl rfl rfl ?_
          intro u h4 hle4 hu
          obtain ⟨np, hnp⟩ : ∃ np : Pc, np = (m[(((o : Int) + (i : Int)) / 256).toNat]'(by omega), ((o : Int) + (i : Int)) % 256 / 8, ((o : Int) + (i : Int)) % 8, ⟨#[]⟩) := ⟨_, rfl⟩
          have hset := hset1 np hnp hnew
          rw [← hnp] at hu
          have hps : np.2.2.2.size ≤ 1000000 := by rw [hnp]; exact Nat.zero_le _
          refine WL_append (enc := encP) (i := 0) rfl rfl rfl elemP rfl rfl (Src.sl hu) (flatP _) (by simp only [List.length_cons, List.length_nil]; omega) (by simp only [List.length_cons, List.length_nil]; omega) rfl rfl rfl ?_
          intro w'
          simp only [List.set_cons_zero]
          have hlen : (pcsTo m o s i (cntP o i) ++ [np]).length = cntP o i + 1 := by simp [hpl]
          have hget : ∀ hh, (pcsTo m o s i (cntP o i) ++ [np])[cntP o i]'hh = np := by intro hh; rw [List.getElem_append_right (by omega)]; simp [hpl]
          generalize pcsTo m o s i (cntP o i) ++ [np] = Lm at hlen hget hset ⊢
          refine WL_updE (UpdE.shapeL 0 rfl) ?_
          rintro _ _ - ⟨rfl, rfl, xa, xc, rfl⟩
          refine WL_updE (UpdE.shapePos 0 rfl (by omega)) ?_
          rintro _ _ - ⟨rfl, rfl, rb, rfl⟩
          obtain ⟨k, hk⟩ : ∃ k, k = cntP o i := ⟨_, rfl⟩
          rw [← hk] at hset hlen hget
          refine WL_is (X_assign rfl rfl) rfl rfl rfl ?_
          (repeat (first | refine WL_nil ?_ | refine Then_normal ?_ | refine W_seq ?_))
          have hi1 : ((k + 1 : Nat) : Int) - 1 = (k : Int) := by omega
          rw [hlen]
          have hkL : k < Lm.length := by omega
          obtain ⟨p1, p2, p3, p4⟩ := np
          dsimp only at hps hset
          skip
          refine W_region rfl ?_
          refine WL_is (X_move rfl rfl) rfl rfl rfl ?_
          refine WL_is (X_move rfl rfl) rfl rfl rfl ?_
          refine WL_is (X_len rfl rfl rfl) rfl rfl rfl ?_
          refine WL_is (X_subW rfl rfl rfl (by exact wrap_i64_in (by omega) (by omega))) rfl rfl rfl ?_
          rw [hi1]
          refine WL_is (X_index_row rfl rfl (by exact idx0) rfl rfl rfl (by omega)) rfl rfl rfl ?_
          refine WL_is (X_loadA_spot rfl rfl (by exact idx0) (by omega) rfl rfl rfl (by omega) rfl) rfl rfl rfl ?_
          simp only [hget]
          (refine WL_alloc rfl rfl rfl rfl rfl rfl ?_; intro b_)
          refine WL_store rfl rfl rfl (by exact idx0) rfl rfl rfl rfl rfl rfl rfl rfl rfl ?_
          (repeat (first | refine WL_nil ?_ | refine Then_normal ?_ | refine W_seq ?_))
          generalize b_ = xb
          skip
          refine W_draw0 7 rfl rfl rfl rfl ?_
          refine RG_val rfl rfl (fun _ => rfl) (fun _ => X_fieldAddr rfl rfl rfl (by simp only [Nat.zero_add] <;> rfl)) ?_
          refine RG_val rfl rfl (fun _ => rfl) (fun _ => X_load1 rfl rfl (by exact idx0) rfl rfl) ?_
          refine RG_val rfl rfl (fun _ => rfl) (fun _ => X_move rfl rfl) ?_
          refine RG_val rfl rfl (fun _ => rfl) (fun _ => X_move rfl rfl) ?_
          refine RG_val rfl rfl (fun _ => rfl) (fun _ => X_move rfl rfl) ?_
          refine RG_val rfl rfl (fun _ => rfl) (fun _ => X_addW rfl rfl rfl (by exact wrap_i64_in (by omega) (by omega))) ?_
          refine RG_val rfl rfl (fun _ => rfl) (fun _ => X_sliceS rfl rfl rfl rfl rfl (by omega) (by omega) (by omega)) ?_
          refine RG_nil ?_
          refine RG_endv rfl (fun vs => by simp only [endE, List.cons_append, List.nil_append] <;> rfl) (fun vs => rfl) ?_
          rw [hsi]
          refine WL_is (X_addS rfl rfl rfl (by omega)) rfl rfl rfl ?_
          refine WL_is (X_fieldAddr rfl rfl rfl (by simp only [Nat.zero_add] <;> rfl)) rfl rfl rfl ?_
          refine WL_store rfl rfl rfl (by exact idx0) rfl rfl rfl rfl rfl rfl rfl rfl rfl ?_
          (repeat (first | refine WL_nil ?_ | refine Then_normal ?_))
          skip
          refine W_region rfl ?_
          refine WL_is (X_move rfl rfl) rfl rfl rfl ?_
          refine WL_is (X_move rfl rfl) rfl rfl rfl ?_
          refine WL_is (X_len rfl rfl rfl) rfl rfl rfl ?_
          refine WL_is (X_subW rfl rfl rfl (by exact wrap_i64_in (by omega) (by omega))) rfl rfl rfl ?_
          rw [hi1]
          refine WL_is (X_loadA rfl rfl (by exact idx0) rfl rfl rfl) rfl rfl rfl ?_
          refine WL_is (X_index_row rfl rfl (by exact idx1) rfl rfl rfl (by omega)) rfl rfl rfl ?_
          refine WL_store_spot rfl rfl rfl (by exact idx1) (by omega) rfl rfl rfl rfl rfl (by omega) rfl rfl rfl rfl ?_
          (repeat (first | refine WL_nil ?_ | refine Then_normal ?_ | refine inBlk_normal ?_))
          skip
          refine W_region rfl ?_
          refine WL_is (X_move rfl rfl) rfl rfl rfl ?_
          refine WL_is (X_addW rfl rfl rfl (by exact wrap_i64_in (by omega) (by omega))) rfl rfl rfl ?_
          refine WL_is (X_assign rfl rfl) rfl rfl rfl ?_
          (repeat (first | refine WL_nil ?_ | refine Then_normal ?_))
          refine ⟨⟨i + 1, _, _⟩, ⟨(by repeat (first | exact SubE_nil | refine SubE_cons rfl ?_)), rfl, ?_, rfl⟩, ⟨by dsimp only; omega, hle.trans hle4⟩, by dsimp only; omega⟩
          rw [← hset]
          exact SubR.skip _ (SubR.refl _)
        · by_cases h8 : ((o : Int) + (i : Int)) % 8 = 0
          · have hnew : i = 0 ∨ (o + i) % 8 = 0 := .inr (by omega)
            skip
            refine W_region rfl ?_
            refine WL_is (X_move rfl rfl) rfl rfl rfl ?_
            refine WL_is (X_eql_f rfl rfl rfl (by omega)) rfl rfl rfl ?_
            refine WL_is (X_move rfl rfl) rfl rfl rfl ?_
            refine WL_is (X_move rfl rfl) rfl rfl rfl ?_
            refine WL_is (X_rem rfl rfl rfl (by omega) (by omega)) rfl rfl rfl ?_
            refine WL_is (X_eql_t rfl rfl rfl (by omega)) rfl rfl rfl ?_
            refine WL_is (X_pick_f rfl rfl rfl) rfl rfl rfl ?_
            (repeat (first | refine WL_nil ?_ | refine Then_normal ?_ | refine W_true rfl ?_))
            skip
            refine W_region rfl ?_
            refine WL_is (X_move rfl rfl) rfl rfl rfl ?_
            refine WL_is (X_move rfl rfl) rfl rfl rfl ?_
            refine WL_is (X_move rfl rfl) rfl rfl rfl ?_
            refine WL_is (X_quoW rfl rfl rfl (by omega) (by omega) (by exact wrap_i64_in (by omega) (by omega))) rfl rfl rfl ?_
            (refine WL_index_slN rfl rfl rfl rfl rfl (by assumption) (by omega) rfl rfl rfl ?_; intro p_ hp_)
            refine WL_is (X_load1_at rfl rfl (by assumption) rfl rfl) rfl rfl rfl ?_
            refine WL_is (X_move rfl rfl) rfl rfl rfl ?_
            refine WL_is (X_rem rfl rfl rfl (by omega) (by omega)) rfl rfl rfl ?_
            refine WL_is (X_quoW rfl rfl rfl (by omega) (by omega) (by exact wrap_i64_in (by omega) (by omega))) rfl rfl rfl ?_
            refine WL_is (X_move rfl rfl) rfl rfl rfl ?_
            refine WL_is (X_rem rfl rfl rfl (by omega) (by omega)) rfl rfl rfl ?_
            refine WL_is (X_build rfl rfl rfl) rfl rfl rfl ?_
            refine WL_buildSl (enc := encP) [(m[(((o : Int) + (i : Int)) / 256).toNat]'(by omega), ((o : Int) + (i : Int)) % 256 / 8, ((o : Int) + (i : Int)) % 8, ⟨#[]⟩)] (lenP _) rfl rfl rfl rfl rfl rfl rfl rfl rfl rfl rfl rfl rfl rfl rfl ?_
            intro u h4 hle4 hu
            obtain ⟨np, hnp⟩ : ∃ np : Pc, np = (m[(((o : Int) + (i : Int)) / 256).toNat]'(by omega), ((o : Int) + (i : Int)) % 256 / 8, ((o : Int) + (i : Int)) % 8, ⟨#[]⟩) := ⟨_, rfl⟩
            have hset := hset1 np hnp hnew
            rw [← hnp] at hu
            have hps : np.2.2.2.size ≤ 1000000 := by rw [hnp]; exact Nat.zero_le _
            refine WL_append (enc := encP) (i := 0) rfl rfl rfl elemP rfl rfl (Src.sl hu) (flatP _) (by simp only [List.length_cons, List.length_nil]; omega) (by simp only [List.length_cons, List.length_nil]; omega) rfl rfl rfl ?_
            intro w'
            simp only [List.set_cons_zero]
            have hlen : (pcsTo m o s i (cntP o i) ++ [np]).length = cntP o i + 1 := by simp [hpl]
            have hget : ∀ hh, (pcsTo m o s i (cntP o i) ++ [np])[cntP o i]'hh = np := by intro hh; rw [List.getElem_append_right (by omega)]; simp [hpl]
            generalize pcsTo m o s i (cntP o i) ++ [np] = Lm at hlen hget hset ⊢
            refine WL_updE (UpdE.shapeL 0 rfl) ?_
            rintro _ _ - ⟨rfl, rfl, xa, xc, rfl⟩
            refine WL_updE (UpdE.shapePos 0 rfl (by omega)) ?_
            rintro _ _ - ⟨rfl, rfl, rb, rfl⟩
            obtain ⟨k, hk⟩ : ∃ k, k = cntP o i := ⟨_, rfl⟩
            rw [← hk] at hset hlen hget
            refine WL_is (X_assign rfl rfl) rfl rfl rfl ?_
            (repeat (first | refine WL_nil ?_ | refine Then_normal ?_ | refine W_seq ?_))
            have hi1 : ((k + 1 : Nat) : Int) - 1 = (k : Int) := by omega
            rw [hlen]
            have hkL : k < Lm.length := by omega
            obtain ⟨p1, p2, p3, p4⟩ := np
            dsimp only at hps hset
            skip
            refine W_region rfl ?_
            refine WL_is (X_move rfl rfl) rfl rfl rfl ?_
            refine WL_is (X_move rfl rfl) rfl rfl rfl ?_
            refine WL_is (X_len rfl rfl rfl) rfl rfl rfl ?_
            refine WL_is (X_subW rfl rfl rfl (by exact wrap_i64_in (by omega) (by omega))) rfl rfl rfl ?_
            rw [hi1]
            refine WL_is (X_index_row rfl rfl (by exact idx0) rfl rfl rfl (by omega)) rfl rfl rfl ?_
            refine WL_is (X_loadA_spot rfl rfl (by exact idx0) (by omega) rfl rfl rfl (by omega) rfl) rfl rfl rfl ?_
            simp only [hget]
            (refine WL_alloc rfl rfl rfl rfl rfl rfl ?_; intro b_)
            refine WL_store rfl rfl rfl (by exact idx0) rfl rfl rfl rfl rfl rfl rfl rfl rfl ?_
            (repeat (first | refine WL_nil ?_ | refine Then_normal ?_ | refine W_seq ?_))
            generalize b_ = xb
            skip
            refine W_draw0 7 rfl rfl rfl rfl ?_
            refine RG_val rfl rfl (fun _ => rfl) (fun _ => X_fieldAddr rfl rfl rfl (by simp only [Nat.zero_add] <;> rfl)) ?_
            refine RG_val rfl rfl (fun _ => rfl) (fun _ => X_load1 rfl rfl (by exact idx0) rfl rfl) ?_
            refine RG_val rfl rfl (fun _ => rfl) (fun _ => X_move rfl rfl) ?_
            refine RG_val rfl rfl (fun _ => rfl) (fun _ => X_move rfl rfl) ?_
            refine RG_val rfl rfl (fun _ => rfl) (fun _ => X_move rfl rfl) ?_
            refine RG_val rfl rfl (fun _ => rfl) (fun _ => X_addW rfl rfl rfl (by exact wrap_i64_in (by omega) (by omega))) ?_
            refine RG_val rfl rfl (fun _ => rfl) (fun _ => X_sliceS rfl rfl rfl rfl rfl (by omega) (by omega) (by omega)) ?_
            refine RG_nil ?_
            refine RG_endv rfl (fun vs => by simp only [endE, List.cons_append, List.nil_append] <;> rfl) (fun vs => rfl) ?_
            rw [hsi]
            refine WL_is (X_addS rfl rfl rfl (by omega)) rfl rfl rfl ?_
            refine WL_is (X_fieldAddr rfl rfl rfl (by simp only [Nat.zero_add] <;> rfl)) rfl rfl rfl ?_
            refine WL_store rfl rfl rfl (by exact idx0) rfl rfl rfl rfl rfl rfl rfl rfl rfl ?_
            (repeat (first | refine WL_nil ?_ | refine Then_normal ?_))
            skip
            refine W_region rfl ?_
            refine WL_is (X_move rfl rfl) rfl rfl rfl ?_
            refine WL_is (X_move rfl rfl) rfl rfl rfl ?_
            refine WL_is (X_len rfl rfl rfl) rfl rfl rfl ?_
            refine WL_is (X_subW rfl rfl rfl (by exact wrap_i64_in (by omega) (by omega))) rfl rfl rfl ?_
            rw [hi1]
            refine WL_is (X_loadA rfl rfl (by exact idx0) rfl rfl rfl) rfl rfl rfl ?_
            refine WL_is (X_index_row rfl rfl (by exact idx1) rfl rfl rfl (by omega)) rfl rfl rfl ?_
            refine WL_store_spot rfl rfl rfl (by exact idx1) (by omega) rfl rfl rfl rfl rfl (by omega) rfl rfl rfl rfl ?_
            (repeat (first | refine WL_nil ?_ | refine Then_normal ?_ | refine inBlk_normal ?_))
            skip
            refine W_region rfl ?_
            refine WL_is (X_move rfl rfl) rfl rfl rfl ?_
            refine WL_is (X_addW rfl rfl rfl (by exact wrap_i64_in (by omega) (by omega))) rfl rfl rfl ?_
            refine WL_is (X_assign rfl rfl) rfl rfl rfl ?_
            (repeat (first | refine WL_nil ?_ | refine Then_normal ?_))
            refine ⟨⟨i + 1, _, _⟩, ⟨(by repeat (first | exact SubE_nil | refine SubE_cons rfl ?_)), rfl, ?_, rfl⟩, ⟨by dsimp only; omega, hle.trans hle4⟩, by dsimp only; omega⟩
            rw [← hset]
            exact SubR.skip _ (SubR.refl _)
          · skip
            refine W_region rfl ?_
            refine WL_is (X_move rfl rfl) rfl rfl rfl ?_
            refine WL_is (X_eql_f rfl rfl rfl (by omega)) rfl rfl rfl ?_
            refine WL_is (X_move rfl rfl) rfl rfl rfl ?_
            refine WL_is (X_move rfl rfl) rfl rfl rfl ?_
            refine WL_is (X_rem rfl rfl rfl (by omega) (by omega)) rfl rfl rfl ?_
            refine WL_is (X_eql_f rfl rfl rfl (by omega)) rfl rfl rfl ?_
            refine WL_is (X_pick_f rfl rfl rfl) rfl rfl rfl ?_
            (repeat (first | refine WL_nil ?_ | refine Then_normal ?_ | refine W_seq ?_ | refine W_skip ?_ | refine W_false rfl ?_))
            obtain ⟨e1, e2, e3, e4⟩ := cntP_old (off := o) (i := i) (by omega) (by omega)
            obtain ⟨k, hk⟩ : ∃ k, k = cntP o i - 1 := ⟨_, rfl⟩
            obtain ⟨np, hnp⟩ : ∃ np : Pc, np = pieceP m o s i k := ⟨_, rfl⟩
            have hset := pcs_old (m := m) (off := o) hlt' (by omega) (by omega) np (by rw [hnp, hk])
            have hps : np.2.2.2.size ≤ 1000000 := by rw [hnp]; simp only [pieceP, ByteArray.size_extract]; omega
            have hlen : (pcsTo m o s i (cntP o i)).length = k + 1 := by omega
            have hget : ∀ hh, (pcsTo m o s i (cntP o i))[k]'hh = np := by intro hh; rw [pcsTo_get, hnp]
            rw [← hk] at hset
            generalize pcsTo m o s i (cntP o i) = Lm at hlen hget hset ⊢
            have hle4 := le.refl h3
            refine W_updE (UpdE.shapeL 0 rfl) ?_
            rintro _ _ - ⟨rfl, rfl, xa, xc, rfl⟩
            refine W_updE (UpdE.shapePos 0 rfl (by omega)) ?_
            rintro _ _ - ⟨rfl, rfl, rb, rfl⟩
            have hi1 : ((k + 1 : Nat) : Int) - 1 = (k : Int) := by omega
            rw [hlen]
            have hkL : k < Lm.length := by omega
            obtain ⟨p1, p2, p3, p4⟩ := np
            dsimp only at hps hset
            skip
            refine W_region rfl ?_
            refine WL_is (X_move rfl rfl) rfl rfl rfl ?_
            refine WL_is (X_move rfl rfl) rfl rfl rfl ?_
            refine WL_is (X_len rfl rfl rfl) rfl rfl rfl ?_
            refine WL_is (X_subW rfl rfl rfl (by exact wrap_i64_in (by omega) (by omega))) rfl rfl rfl ?_
            rw [hi1]
            refine WL_is (X_index_row rfl rfl (by exact idx0) rfl rfl rfl (by omega)) rfl rfl rfl ?_
            refine WL_is (X_loadA_spot rfl rfl (by exact idx0) (by omega) rfl rfl rfl (by omega) rfl) rfl rfl rfl ?_
            simp only [hget]
            (refine WL_alloc rfl rfl rfl rfl rfl rfl ?_; intro b_)
            refine WL_store rfl rfl rfl (by exact idx0) rfl rfl rfl rfl rfl rfl rfl rfl rfl ?_
            (repeat (first | refine WL_nil ?_ | refine Then_normal ?_ | refine W_seq ?_))
            generalize b_ = xb
            skip
            refine W_draw0 7 rfl rfl rfl rfl ?_
            refine RG_val rfl rfl (fun _ => rfl) (fun _ => X_fieldAddr rfl rfl rfl (by simp only [Nat.zero_add] <;> rfl)) ?_
            refine RG_val rfl rfl (fun _ => rfl) (fun _ => X_load1 rfl rfl (by exact idx0) rfl rfl) ?_
            refine RG_val rfl rfl (fun _ => rfl) (fun _ => X_move rfl rfl) ?_
            refine RG_val rfl rfl (fun _ => rfl) (fun _ => X_move rfl rfl) ?_
            refine RG_val rfl rfl (fun _ => rfl) (fun _ => X_move rfl rfl) ?_
            refine RG_val rfl rfl (fun _ => rfl) (fun _ => X_addW rfl rfl rfl (by exact wrap_i64_in (by omega) (by omega))) ?_
            refine RG_val rfl rfl (fun _ => rfl) (fun _ => X_sliceS rfl rfl rfl rfl rfl (by omega) (by omega) (by omega)) ?_
            refine RG_nil ?_
            refine RG_endv rfl (fun vs => by simp only [endE, List.cons_append, List.nil_append] <;> rfl) (fun vs => rfl) ?_
            rw [hsi]
            refine WL_is (X_addS rfl rfl rfl (by omega)) rfl rfl rfl ?_
            refine WL_is (X_fieldAddr rfl rfl rfl (by simp only [Nat.zero_add] <;> rfl)) rfl rfl rfl ?_
            refine WL_store rfl rfl rfl (by exact idx0) rfl rfl rfl rfl rfl rfl rfl rfl rfl ?_
            (repeat (first | refine WL_nil ?_ | refine Then_normal ?_))
            skip
            refine W_region rfl ?_
            refine WL_is (X_move rfl rfl) rfl rfl rfl ?_
            refine WL_is (X_move rfl rfl) rfl rfl rfl ?_
            refine WL_is (X_len rfl rfl rfl) rfl rfl rfl ?_
            refine WL_is (X_subW rfl rfl rfl (by exact wrap_i64_in (by omega) (by omega))) rfl rfl rfl ?_
            rw [hi1]
            refine WL_is (X_loadA rfl rfl (by exact idx0) rfl rfl rfl) rfl rfl rfl ?_
            refine WL_is (X_index_row rfl rfl (by exact idx1) rfl rfl rfl (by omega)) rfl rfl rfl ?_
            refine WL_store_spot rfl rfl rfl (by exact idx1) (by omega) rfl rfl rfl rfl rfl (by omega) rfl rfl rfl rfl ?_
            (repeat (first | refine WL_nil ?_ | refine Then_normal ?_ | refine inBlk_normal ?_))
            skip
            refine W_region rfl ?_
            refine WL_is (X_move rfl rfl) rfl rfl rfl ?_
            refine WL_is (X_addW rfl rfl rfl (by exact wrap_i64_in (by omega) (by omega))) rfl rfl rfl ?_
            refine WL_is (X_assign rfl rfl) rfl rfl rfl ?_
            (repeat (first | refine WL_nil ?_ | refine Then_normal ?_))
            refine ⟨⟨i + 1, _, _⟩, ⟨(by repeat (first | exact SubE_nil | refine SubE_cons rfl ?_)), rfl, ?_, rfl⟩, ⟨by dsimp only; omega, hle.trans hle4⟩, by dsimp only; omega⟩
            rw [← hset]
            exact SubR.skip _ (SubR.refl _)
      · have hie : i = s.size := by omega
        subst hie
        (repeat (first | refine W_seq ?_))
        refine W_region rfl ?_
        refine WL_is (X_move rfl rfl) rfl rfl rfl ?_
        refine WL_is (X_move rfl rfl) rfl rfl rfl ?_
        refine WL_is (X_len_str rfl rfl rfl) rfl rfl rfl ?_
        refine WL_is (X_lss_f rfl rfl rfl (by omega)) rfl rfl rfl ?_
        (repeat (first | refine WL_nil ?_ | refine Then_normal ?_ | refine W_seq ?_ | refine W_exit ?_ | refine Then_exit ?_ | refine inBlk_here ?_ | refine W_false rfl ?_))
        skip
        refine W_region rfl ?_
        refine WL_is (X_move rfl rfl) rfl rfl rfl ?_
        refine WL_is (X_assign rfl rfl) rfl rfl rfl ?_
        refine WL_is (X_assign rfl rfl) rfl rfl rfl ?_
        (repeat (first | refine WL_nil ?_ | refine Then_normal ?_ | refine W_ret ?_))
        refine Body_vals (.cons (.tmp rfl) (.cons (.tmp rfl) .nil)) rfl ?_
        refine (UpdE.row 0 rfl (lenP _)).mono ?_
        rintro R' h' - ⟨rfl, hs⟩
        exact ⟨rfl, x, by rw [hpe], by unfold pcL; rw [if_pos hpe]; exact hs⟩
  · refine WL_is (X_move rfl rfl) rfl rfl rfl ?_
    refine WL_is (X_extract rfl rfl rfl) rfl rfl rfl ?_
    refine WL_is (X_extract rfl rfl rfl) rfl rfl rfl ?_
    refine WL_is (X_assign rfl rfl) rfl rfl rfl ?_
    refine WL_is (X_assign rfl rfl) rfl rfl rfl ?_
    (repeat (first | refine WL_nil ?_ | refine Then_normal ?_ | refine W_seq ?_))
    skip
    refine W_region rfl ?_
    refine WL_is (X_move rfl rfl) rfl rfl rfl ?_
    refine WL_is (X_neq_t rfl rfl rfl (by omega)) rfl rfl rfl ?_
    (repeat (first | refine WL_nil ?_ | refine Then_normal ?_ | refine W_seq ?_ | refine W_true rfl ?_))
    skip
    refine W_region rfl ?_
    refine WL_is (X_move rfl rfl) rfl rfl rfl ?_
    refine WL_is (X_assign rfl rfl) rfl rfl rfl ?_
    refine WL_is (X_assign rfl rfl) rfl rfl rfl ?_
    (repeat (first | refine WL_nil ?_ | refine Then_normal ?_ | refine W_ret ?_ | refine Then_ret ?_))
    exact Body_end rfl rfl rfl (SubR.none _) (PiecesA.bad (by simp [pcE, he]) he)
end Go.Proofs.Ytoocbfpomamdeaa
