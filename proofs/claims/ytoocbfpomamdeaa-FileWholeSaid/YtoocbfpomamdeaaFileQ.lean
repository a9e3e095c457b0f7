/- Files: the pieces are the text. -/
import Derived.Test.YtoocbfpomamdeaaFileP
namespace Go.Proofs.Ytoocbfpomamdeaa
set_option maxRecDepth 4000
open Go Go.Par PH
/-- The map of the statement. -/
def mapW (fr : Nat) : List Int := (List.range 32).map fun i => (((1 + (fr + i) % 255 : Nat)) : Int)
theorem mapW_len (fr : Nat) : (mapW fr).length = 32 := by simp [mapW]
theorem mapW_at (fr : Nat) {i : Nat} (hi : i < 32) : (mapW fr)[i]? = some (((1 + (fr + i) % 255 : Nat)) : Int) := by
  unfold mapW; rw [List.getElem?_map, List.getElem?_range hi]; rfl
def mapK (fr k : Nat) : List Int := (mapW fr).take k ++ List.replicate (32 - k) 0
theorem mapK_len {fr k : Nat} (h : k ≤ 32) : (mapK fr k).length = 32 := by simp [mapK, mapW_len]; omega
theorem mapK_set {fr k : Nat} (h : k < 32) : (mapK fr k).set k (((1 + (fr + k) % 255 : Nat)) : Int) = mapK fr (k + 1) := by
  apply List.ext_getElem?
  intro j
  rw [List.getElem?_set, mapK_len (by omega)]
  have at_ : ∀ q, q ≤ 32 → (mapK fr q)[j]? = if j < q then (mapW fr)[j]? else if j < 32 then some 0 else none := by
    intro q hq
    unfold mapK
    rw [List.getElem?_append, List.length_take, mapW_len, Nat.min_eq_left hq]
    by_cases h1 : j < q
    · rw [if_pos h1, if_pos h1, List.getElem?_take, if_pos h1]
    · rw [if_neg h1, if_neg h1, List.getElem?_replicate]
      by_cases h2 : j < 32
      · rw [if_pos (by omega), if_pos h2]
      · rw [if_neg (by omega), if_neg h2]
  rw [at_ k (by omega), at_ (k + 1) (by omega)]
  by_cases e : k = j
  · subst e; rw [if_pos rfl, if_pos h, if_pos (by omega), mapW_at fr h]
  · rw [if_neg e]
    by_cases h1 : j < k
    · rw [if_pos h1, if_pos (by omega)]
    · have h2 : ¬ j < k + 1 := by omega
      rw [if_neg h1, if_neg h2]
theorem mapK_end (fr : Nat) : mapK fr 32 = mapW fr := by
  unfold mapK
  rw [List.take_of_length_le (by rw [mapW_len]; omega)]; simp
theorem mapW_may (fr : Nat) : mayM (mapW fr) = true := by
  unfold mayM
  rw [mapW_len]
  simp only [decide_true, Bool.true_and, Bool.not_eq_true', List.any_eq_false]
  intro x hx
  simp only [mapW, List.mem_map, List.mem_range] at hx
  obtain ⟨i, hi, rfl⟩ := hx
  simp [badI]; omega
theorem mapW_pc (fr o : Nat) (s : ByteArray) (h : o + s.size ≤ 8192) : pcE (mapW fr) (o : Int) s = 0 ∧ pcL (mapW fr) (o : Int) s = pcsTo (mapW fr) o s s.size (cntP o s.size) := by
  have hn : needE (mapW fr) (o : Int) (s.size : Int) = 0 := by
    unfold needE
    rw [if_neg, if_neg (by omega)]
    rintro (hh | hh | hh)
    · rw [mapW_may] at hh; cases hh
    · omega
    · omega
  have hh : ∀ k, holesTo (mapW fr) (o : Int) (s.size : Int) k = [] := by
    intro k
    induction k with
    | zero => rfl
    | succ k ih =>
      rw [holesTo_succ, ih]
      have : holeB (mapW fr) (o : Int) (s.size : Int) k = false := by
        unfold holeB
        by_cases hk : k < 32
        · rw [mapW_at fr hk]; simp; omega
        · rw [List.getElem?_eq_none (by rw [mapW_len]; omega)]; simp
      rw [this]; rfl
  have hp : pcE (mapW fr) (o : Int) s = 0 := by
    unfold pcE needL
    rw [hn, if_neg (by simp), if_pos rfl, hh]; simp
  refine ⟨hp, ?_⟩
  unfold pcL
  rw [if_pos hp, Int.toNat_natCast]
/-- What a piece is, as the statement asks. -/
theorem piece_facts (fr o : Nat) (s : ByteArray) (i : Nat) (h : o + s.size ≤ 8192) (hi : i < cntP o s.size) (p1 p2 p3 : Int) (p4 : ByteArray) (hp : pieceP (mapW fr) o s s.size i = (p1, p2, p3, p4)) :
    ∃ (at_ f : Nat), at_ = o + stP o i ∧ at_ < 8192 ∧ (∃ hh : at_ / 256 < (mapW fr).length, p1 = (mapW fr)[at_ / 256]) ∧ p2 = ((at_ % 256 / 8 : Nat) : Int) ∧ p3 = (f : Int) ∧ f = at_ % 8 ∧ 0 < p4.size ∧ p4.size ≤ 8 - f ∧
      o + min (stP o (i + 1)) s.size = at_ + p4.size ∧ s.extract 0 (stP o i) ++ p4 = s.extract 0 (min (stP o (i + 1)) s.size) := by
  obtain ⟨g1, g2, g3⟩ := stP_lt hi
  simp only [pieceP, Prod.mk.injEq] at hp
  obtain ⟨e1, e2, e3, e4⟩ := hp
  have hb : (o + stP o i) / 256 < (mapW fr).length := by rw [mapW_len]; omega
  have hsz : p4.size = min s.size (stP o (i + 1)) - stP o i := by rw [← e4, ByteArray.size_extract]; omega
  refine ⟨o + stP o i, (o + stP o i) % 8, rfl, by omega, ⟨hb, ?_⟩, e2.symm, e3.symm, rfl, by omega, by omega, by omega, ?_⟩
  · rw [← e1, List.getElem?_eq_getElem hb]; rfl
  · rw [← e4, ByteArray.extract_append_extract, Nat.min_eq_left (by omega), Nat.max_eq_right (by omega), Nat.min_comm]
theorem byte_back2 (w k : Nat) (hk : k < 8) : IntKind.u8.wrap (((w : Nat) : Int) / 2 ^ (8 * (k : Int)).toNat) = ((byteN w k : Nat) : Int) := by
  have e1 : (8 * (k : Int)).toNat = 8 * k := by omega
  rw [e1, IntKind.wrap_u8]
  unfold byteN
  rw [show (256 : Nat) ^ k = 2 ^ (8 * k) from by rw [show (256 : Nat) = 2 ^ 8 from rfl, ← Nat.pow_mul]]
  simp
attribute [local irreducible] W WL Does Exec Body Then inBlk RG WR row obj pblk
set_option maxHeartbeats 8000000 in
theorem whole_law (h : PH) (fr o : Nat) (s : ByteArray) (hfr : fr ≤ 255) (ho : o ≤ 65535) : Does Try.prog 6 [.int .u8 (fr : Int), .int .u16 (o : Int), .string s] [] h (Ret fun r _ _ => r = .bool true) := by
  have hal := fun h => alive_fn h
  refine Does_of_W Try.func6 rfl (n := 167) rfl rfl (by simp only [argE, Nat.reduceAdd] <;> rfl) ?_
  by_cases h1 : (s.size : Int) > 1000
  · have hal := hal h
    (repeat (first | refine W_seq ?_))
    skip
    refine W_region rfl ?_
    refine WL_is (X_assign rfl rfl) rfl rfl rfl ?_
    (repeat (first | refine WL_nil ?_ | refine Then_normal ?_ | refine W_seq ?_))
    skip
    refine W_region rfl ?_
    refine WL_is (X_move rfl rfl) rfl rfl rfl ?_
    refine WL_is (X_len_str rfl rfl rfl) rfl rfl rfl ?_
    refine WL_is (X_gtr_t rfl rfl rfl (by omega)) rfl rfl rfl ?_
    refine WL_is (X_move rfl rfl) rfl rfl rfl ?_
    refine WL_off rfl rfl rfl ?_
    refine WL_off rfl rfl rfl ?_
    refine WL_off rfl rfl rfl ?_
    refine WL_off rfl rfl rfl ?_
    refine WL_off rfl rfl rfl ?_
    refine WL_off rfl rfl rfl ?_
    refine WL_is (X_pick_t rfl rfl rfl) rfl rfl rfl ?_
    (repeat (first | refine WL_nil ?_ | refine Then_normal ?_ | refine W_seq ?_ | refine W_true rfl ?_))
    skip
    refine W_region rfl ?_
    refine WL_is (X_callv rfl rfl rfl Try.func8 rfl (by assumption)) rfl rfl rfl ?_
    refine WL_is (X_assign rfl rfl) rfl rfl rfl ?_
    (repeat (first | refine WL_nil ?_ | refine Then_normal ?_ | refine W_ret ?_ | refine Then_ret ?_))
    refine Body_end rfl rfl rfl (SubR.none _) ?_
    rfl
  by_cases h2 : (o : Int) + (s.size : Int) > 8192
  · have hal := hal h
    (repeat (first | refine W_seq ?_))
    skip
    refine W_region rfl ?_
    refine WL_is (X_assign rfl rfl) rfl rfl rfl ?_
    (repeat (first | refine WL_nil ?_ | refine Then_normal ?_ | refine W_seq ?_))
    skip
    refine W_region rfl ?_
    refine WL_is (X_move rfl rfl) rfl rfl rfl ?_
    refine WL_is (X_len_str rfl rfl rfl) rfl rfl rfl ?_
    refine WL_is (X_gtr_f rfl rfl rfl (by omega)) rfl rfl rfl ?_
    refine WL_is (X_move rfl rfl) rfl rfl rfl ?_
    refine WL_is (X_move rfl rfl) rfl rfl rfl ?_
    refine WL_is (X_convW rfl rfl rfl rfl (by exact wrap_i64_in (by omega) (by omega))) rfl rfl rfl ?_
    refine WL_is (X_move rfl rfl) rfl rfl rfl ?_
    refine WL_is (X_len_str rfl rfl rfl) rfl rfl rfl ?_
    refine WL_is (X_addW rfl rfl rfl (by exact wrap_i64_in (by omega) (by omega))) rfl rfl rfl ?_
    refine WL_is (X_gtr_t rfl rfl rfl (by omega)) rfl rfl rfl ?_
    refine WL_is (X_pick_f rfl rfl rfl) rfl rfl rfl ?_
    (repeat (first | refine WL_nil ?_ | refine Then_normal ?_ | refine W_seq ?_ | refine W_true rfl ?_))
    skip
    refine W_region rfl ?_
    refine WL_is (X_callv rfl rfl rfl Try.func8 rfl (by assumption)) rfl rfl rfl ?_
    refine WL_is (X_assign rfl rfl) rfl rfl rfl ?_
    (repeat (first | refine WL_nil ?_ | refine Then_normal ?_ | refine W_ret ?_ | refine Then_ret ?_))
    refine Body_end rfl rfl rfl (SubR.none _) ?_
    rfl
  obtain ⟨hpe, hpl⟩ := mapW_pc fr o s (by omega)
  (repeat (first | refine W_seq ?_))
  skip
  refine W_region rfl ?_
  refine WL_is (X_assign rfl rfl) rfl rfl rfl ?_
  (repeat (first | refine WL_nil ?_ | refine Then_normal ?_ | refine W_seq ?_))
  skip
  refine W_region rfl ?_
  refine WL_is (X_move rfl rfl) rfl rfl rfl ?_
  refine WL_is (X_len_str rfl rfl rfl) rfl rfl rfl ?_
  refine WL_is (X_gtr_f rfl rfl rfl (by omega)) rfl rfl rfl ?_
  refine WL_is (X_move rfl rfl) rfl rfl rfl ?_
  refine WL_is (X_move rfl rfl) rfl rfl rfl ?_
  refine WL_is (X_convW rfl rfl rfl rfl (by exact wrap_i64_in (by omega) (by omega))) rfl rfl rfl ?_
  refine WL_is (X_move rfl rfl) rfl rfl rfl ?_
  refine WL_is (X_len_str rfl rfl rfl) rfl rfl rfl ?_
  refine WL_is (X_addW rfl rfl rfl (by exact wrap_i64_in (by omega) (by omega))) rfl rfl rfl ?_
  refine WL_is (X_gtr_f rfl rfl rfl (by omega)) rfl rfl rfl ?_
  refine WL_is (X_pick_f rfl rfl rfl) rfl rfl rfl ?_
  (repeat (first | refine WL_nil ?_ | refine Then_normal ?_ | refine W_seq ?_ | refine W_skip ?_ | refine W_false rfl ?_))
  skip
  refine W_region rfl ?_
  refine WL_make (m := 32) rfl rfl rfl rfl rfl rfl rfl rfl rfl (by decide) (by decide) rfl rfl rfl ?_
  intro mb
  rw [zero32]
  refine WL_upd (Upd.blkrow (cap := 32) (m := 32) (sz := 1) (xs := (List.replicate 32 (0 : Int)).flatMap encI) 0 rfl (Nat.le_refl _) rfl rfl) ?_
  simp only [List.set_cons_zero]
  refine WL_weaken (SubE.refl _) (R1 := [rowL encI (.slice (some ⟨mb, 0, none⟩) 32 32) 3 1 (mapK fr 0)]) (SubR.refl _) ?_
  refine WL_is (X_assign rfl rfl) rfl rfl rfl ?_
  (repeat (first | refine WL_nil ?_ | refine Then_normal ?_ | refine W_seq ?_))
  skip
  refine W_region rfl ?_
  refine WL_is (X_assign rfl rfl) rfl rfl rfl ?_
  (repeat (first | refine WL_nil ?_ | refine Then_normal ?_ | refine W_block ?_))
  refine W_loop (X := Nat) (L := fun k => ⟨[(8, .int .i64 (k : Int)), (7, .slice (some ⟨mb, 0, none⟩) 32 32), (0, .int .u8 (fr : Int)), (1, .int .u16 (o : Int)), (2, .string s)], [], [rowL encI (.slice (some ⟨mb, 0, none⟩) 32 32) 3 1 (mapK fr k)], h⟩) (p := fun k => k ≤ 32) (μ := fun k => 32 - k) 0 ⟨(by repeat (first | exact SubE_nil | refine SubE_cons rfl ?_)), rfl, SubR.refl _, rfl⟩ (Nat.zero_le _) ?_
  intro k hk
  have hkl := mapK_len (fr := fr) hk
  by_cases hlt : (k : Int) < 32
  · have hset := mapK_set (fr := fr) (k := k) (by omega)
    have hv : 1 + ((fr : Int) + (k : Int)) % 255 = ((1 + (fr + k) % 255 : Nat) : Int) := by omega
    generalize mapK fr k = L at hkl hset ⊢
    (repeat (first | refine W_seq ?_))
    refine W_region rfl ?_
    refine WL_is (X_move rfl rfl) rfl rfl rfl ?_
    refine WL_is (X_lss_t rfl rfl rfl (by omega)) rfl rfl rfl ?_
    (repeat (first | refine WL_nil ?_ | refine Then_normal ?_ | refine W_seq ?_ | refine W_skip ?_ | refine W_block ?_ | refine W_true rfl ?_))
    skip
    refine W_region rfl ?_
    refine WL_is (X_move rfl rfl) rfl rfl rfl ?_
    refine WL_is (X_move rfl rfl) rfl rfl rfl ?_
    refine WL_is (X_move rfl rfl) rfl rfl rfl ?_
    refine WL_is (X_convW rfl rfl rfl rfl (by exact wrap_i64_in (by omega) (by omega))) rfl rfl rfl ?_
    refine WL_is (X_move rfl rfl) rfl rfl rfl ?_
    refine WL_is (X_addW rfl rfl rfl (by exact wrap_i64_in (by omega) (by omega))) rfl rfl rfl ?_
    refine WL_is (X_rem rfl rfl rfl (by omega) (by omega)) rfl rfl rfl ?_
    refine WL_is (X_addW rfl rfl rfl (by exact wrap_i64_in (by omega) (by omega))) rfl rfl rfl ?_
    rw [hv]
    refine WL_is (X_index_spot (j := k) rfl rfl rfl rfl rfl (by omega)) rfl rfl rfl ?_
    refine WL_store_spot rfl rfl rfl (by exact idx0) (by omega) rfl rfl rfl rfl rfl (by omega) rfl rfl rfl rfl ?_
    (repeat (first | refine WL_nil ?_ | refine Then_normal ?_ | refine inBlk_normal ?_))
    skip
    refine W_region rfl ?_
    refine WL_is (X_move rfl rfl) rfl rfl rfl ?_
    refine WL_is (X_addW rfl rfl rfl (by exact wrap_i64_in (by omega) (by omega))) rfl rfl rfl ?_
    refine WL_is (X_assign rfl rfl) rfl rfl rfl ?_
    (repeat (first | refine WL_nil ?_ | refine Then_normal ?_))
    refine ⟨k + 1, ⟨(by repeat (first | exact SubE_nil | refine SubE_cons rfl ?_)), rfl, ?_, rfl⟩, by omega, by omega⟩
    rw [← hset]; exact SubR.refl _
  · have hke : k = 32 := by omega
    subst hke
    rw [mapK_end]
    have hml := mapW_len fr
    (repeat (first | refine W_seq ?_))
    refine W_region rfl ?_
    refine WL_is (X_move rfl rfl) rfl rfl rfl ?_
    refine WL_is (X_lss_f rfl rfl rfl (by omega)) rfl rfl rfl ?_
    (repeat (first | refine WL_nil ?_ | refine Then_normal ?_ | refine W_seq ?_ | refine W_exit ?_ | refine Then_exit ?_ | refine inBlk_here ?_ | refine W_false rfl ?_))
    refine W_updE (UpdE.row (enc := encI) 0 rfl (lenI _)) ?_
    rintro _ H1 L1 ⟨rfl, hm⟩
    simp only [List.eraseIdx_cons_zero]
    generalize (some (⟨mb, 0, none⟩ : Addr)) = ma at hm ⊢
    skip
    refine W_region rfl ?_
    refine WL_is (X_move rfl rfl) rfl rfl rfl ?_
    refine WL_is (X_move rfl rfl) rfl rfl rfl ?_
    refine WL_is (X_convW rfl rfl rfl rfl (by exact wrap_i64_in (by omega) (by omega))) rfl rfl rfl ?_
    refine WL_is (X_move rfl rfl) rfl rfl rfl ?_
    refine WL_call rfl rfl rfl Try.func11 rfl rfl rfl rfl (pieces_fn H1 (mapW fr) _ (o : Int) s hm (by omega) (by omega)) ?_
    rintro _ _ H2 L2 ⟨rfl, x1, rfl, hx⟩
    rw [hpe]
    rw [hpl] at hx
    obtain ⟨xa, xc, rfl⟩ := hx.shape
    have hm := hm.mono L2
    have hpn := pcsTo_len (mapW fr) o s s.size (cntP o s.size)
    simp only [List.nil_append]
    refine WL_is (X_move rfl rfl) rfl rfl rfl ?_
    refine WL_is (X_extract rfl rfl rfl) rfl rfl rfl ?_
    refine WL_is (X_extract rfl rfl rfl) rfl rfl rfl ?_
    refine WL_is (X_assign rfl rfl) rfl rfl rfl ?_
    refine WL_is (X_assign rfl rfl) rfl rfl rfl ?_
    (repeat (first | refine WL_nil ?_ | refine Then_normal ?_ | refine W_seq ?_))
    skip
    refine W_region rfl ?_
    refine WL_is (X_move rfl rfl) rfl rfl rfl ?_
    refine WL_is (X_neq_f rfl rfl rfl (by omega)) rfl rfl rfl ?_
    (repeat (first | refine WL_nil ?_ | refine Then_normal ?_ | refine W_seq ?_ | refine W_skip ?_ | refine W_false rfl ?_))
    skip
    refine W_region rfl ?_
    refine WL_is (X_move rfl rfl) rfl rfl rfl ?_
    refine WL_is (X_convW rfl rfl rfl rfl (by exact wrap_i64_in (by omega) (by omega))) rfl rfl rfl ?_
    refine WL_is (X_assign rfl rfl) rfl rfl rfl ?_
    (repeat (first | refine WL_nil ?_ | refine Then_normal ?_ | refine W_seq ?_))
    skip
    refine W_region rfl ?_
    refine WL_is (X_assign rfl rfl) rfl rfl rfl ?_
    (repeat (first | refine WL_nil ?_ | refine Then_normal ?_ | refine W_seq ?_))
    skip
    refine W_region rfl ?_
    refine WL_is (X_assign rfl rfl) rfl rfl rfl ?_
    (repeat (first | refine WL_nil ?_ | refine Then_normal ?_ | refine W_block ?_))
    refine W_loop (X := CX) (L := fun x => ⟨[(13, .int .i64 (x.j : Int)), (11, .int .i64 ((o + min (stP o x.j) s.size : Nat) : Int)), (12, .string (s.extract 0 (min (stP o x.j) s.size))), (9, .slice xa (pcsTo (mapW fr) o s s.size (cntP o s.size)).length xc), (7, .slice ma 32 32), (2, .string s)], [], [], x.h⟩) (p := fun x => x.j ≤ cntP o s.size ∧ le H2 x.h) (μ := fun x => cntP o s.size - x.j) ⟨0, H2⟩ ⟨?_, rfl, SubR.none _, rfl⟩ ⟨Nat.zero_le _, le.refl _⟩ ?_
    · have e0 : stP o 0 = 0 := rfl
      have e1 : s.extract 0 0 = (⟨#[]⟩ : ByteArray) := ByteArray.extract_same
      simp only [e0, Nat.zero_min, Nat.add_zero, e1]
      exact (by repeat (first | exact SubE_nil | refine SubE_cons rfl ?_))
    · rintro ⟨i, h3⟩ ⟨hi, hle⟩
      dsimp only at hi hle ⊢
      have hm := hm.mono hle
      have hx := hx.mono hle
      by_cases hlti : (i : Int) < (pcsTo (mapW fr) o s s.size (cntP o s.size)).length
      · have hic : i < cntP o s.size := by omega
        have hil : i < (pcsTo (mapW fr) o s s.size (cntP o s.size)).length := by omega
        have hget : ∀ hh, (pcsTo (mapW fr) o s s.size (cntP o s.size))[i]'hh = pieceP (mapW fr) o s s.size i := fun hh => pcsTo_get hh
        obtain ⟨g1, g2, g3⟩ := stP_lt hic
        rw [Nat.min_eq_left (by omega)]
        generalize hpp : pieceP (mapW fr) o s s.size i = pp at hget
        obtain ⟨p1, p2, p3, p4⟩ := pp
        obtain ⟨at_, f, f1, f2, ⟨f3a, f3⟩, f4, f5, f6, f7, f8, f9, f10⟩ := piece_facts fr o s i (by omega) hic p1 p2 p3 p4 hpp
        rw [← f1]
        have f3' : p1 = (mapW fr)[((at_ : Int) / 256).toNat]'(by omega) := by
          have e : ((at_ : Int) / 256).toNat = at_ / 256 := by omega
          simp only [e]; exact f3
        have f4' : p2 = (at_ : Int) % 256 / 8 := by omega
        have f5' : p3 = (at_ : Int) % 8 := by omega
        have hE : mrgE p3 p4 = 0 := by unfold mrgE; rw [if_neg (by omega)]
        have hW : mrgW 0 p3 p4 = ((ofB (mrgB 0 p4 f p4.size) 8 : Nat) : Int) := by unfold mrgW; rw [if_pos hE, f5, Int.toNat_natCast]
        have hWl := ofB_lt (mrgB_lt 0 p4 f p4.size) 8
        rw [two64] at hWl
        have hWb : ∀ k, k < 8 → byteN (ofB (mrgB 0 p4 f p4.size) 8) k = mrgB 0 p4 f p4.size k := fun k hk => ofB_div (mrgB_lt 0 p4 f p4.size) hk
        have hMg := merge_fn h3 0 p3 p4 (by decide) (by omega)
        rw [hE, hW] at hMg
        have hB0 : ∀ k, mrgB 0 p4 f p4.size k = if f ≤ k ∧ k < f + p4.size then chrN p4 (k - f) else 0 := fun k => by
          unfold mrgB byteN; rw [Nat.zero_div]
        generalize mrgB 0 p4 f p4.size = B at hWb hB0 hWl hMg
        generalize ofB B 8 = Wd at hWb hWl hMg
        generalize hall : s.extract 0 (stP o i) = all at f10 ⊢
        have hallz : all.size ≤ 1000 := by rw [← hall, ByteArray.size_extract]; omega
        have hcl := cntP_le o s.size
        generalize pcsTo (mapW fr) o s s.size (cntP o s.size) = PL at *
        (repeat (first | refine W_seq ?_))
        refine W_region rfl ?_
        refine WL_is (X_move rfl rfl) rfl rfl rfl ?_
        refine WL_is (X_move rfl rfl) rfl rfl rfl ?_
        refine WL_is (X_len_sl rfl rfl rfl (by assumption)) rfl rfl rfl ?_
        refine WL_is (X_lss_t rfl rfl rfl (by omega)) rfl rfl rfl ?_
        (repeat (first | refine WL_nil ?_ | refine Then_normal ?_ | refine W_seq ?_ | refine W_skip ?_ | refine W_block ?_ | refine W_true rfl ?_))
        skip
        refine W_region rfl ?_
        refine WL_is (X_move rfl rfl) rfl rfl rfl ?_
        refine WL_is (X_move rfl rfl) rfl rfl rfl ?_
        (refine WL_index_slN rfl rfl rfl rfl rfl (by assumption) (by omega) rfl rfl rfl ?_; intro p_ hp_)
        refine WL_is (X_loadA_at rfl rfl (by assumption) rfl rfl rfl) rfl rfl rfl ?_
        simp only [hget]
        (refine WL_alloc rfl rfl rfl rfl rfl rfl ?_; intro b_)
        refine WL_store rfl rfl rfl (by exact idx0) rfl rfl rfl rfl rfl rfl rfl rfl rfl ?_
        (repeat (first | refine WL_nil ?_ | refine Then_normal ?_ | refine W_seq ?_))
        generalize b_ = xb
        dsimp only
        skip
        refine W_draw0 40 rfl rfl rfl rfl ?_
        refine RG_val rfl rfl (fun _ => rfl) (fun _ => X_move rfl rfl) ?_
        refine RG_val rfl rfl (fun _ => rfl) (fun _ => X_geq_f rfl rfl rfl (by omega)) ?_
        refine RG_val rfl rfl (fun _ => rfl) (fun _ => X_move rfl rfl) ?_
        refine RG_val rfl rfl (fun _ => rfl) (fun _ => X_fieldAddr rfl rfl rfl (by simp only [Nat.zero_add] <;> rfl)) ?_
        refine RG_val rfl rfl (fun _ => rfl) (fun _ => X_load1 rfl rfl (by exact idx0) rfl rfl) ?_
        refine RG_val rfl rfl (fun _ => rfl) (fun _ => X_move rfl rfl) ?_
        refine RG_val rfl rfl (fun _ => rfl) (fun _ => X_move rfl rfl) ?_
        refine RG_val rfl rfl (fun _ => rfl) (fun _ => X_quoW rfl rfl rfl (by omega) (by omega) (by exact wrap_i64_in (by omega) (by omega))) ?_
        (refine RG_index_slN rfl rfl rfl (fun _ => rfl) (fun _ => rfl) (by assumption) (by omega) rfl rfl (fun _ => rfl) ?_; intro p_ hp_)
        refine RG_val rfl rfl (fun _ => rfl) (fun _ => X_load1_at rfl rfl (by assumption) rfl rfl) ?_
        refine RG_val rfl rfl (fun _ => rfl) (fun _ => X_neq_f rfl rfl rfl (by omega)) ?_
        refine RG_val rfl rfl (fun _ => rfl) (fun _ => X_pick_f rfl rfl rfl) ?_
        refine RG_val rfl rfl (fun _ => rfl) (fun _ => X_move rfl rfl) ?_
        refine RG_val rfl rfl (fun _ => rfl) (fun _ => X_fieldAddr rfl rfl rfl (by simp only [Nat.zero_add] <;> rfl)) ?_
        refine RG_val rfl rfl (fun _ => rfl) (fun _ => X_load1 rfl rfl (by exact idx0) rfl rfl) ?_
        refine RG_val rfl rfl (fun _ => rfl) (fun _ => X_move rfl rfl) ?_
        refine RG_val rfl rfl (fun _ => rfl) (fun _ => X_rem rfl rfl rfl (by omega) (by omega)) ?_
        refine RG_val rfl rfl (fun _ => rfl) (fun _ => X_quoW rfl rfl rfl (by omega) (by omega) (by exact wrap_i64_in (by omega) (by omega))) ?_
        refine RG_val rfl rfl (fun _ => rfl) (fun _ => X_neq_f rfl rfl rfl (by omega)) ?_
        refine RG_val rfl rfl (fun _ => rfl) (fun _ => X_pick_f rfl rfl rfl) ?_
        refine RG_val rfl rfl (fun _ => rfl) (fun _ => X_move rfl rfl) ?_
        refine RG_val rfl rfl (fun _ => rfl) (fun _ => X_fieldAddr rfl rfl rfl (by simp only [Nat.zero_add] <;> rfl)) ?_
        refine RG_val rfl rfl (fun _ => rfl) (fun _ => X_load1 rfl rfl (by exact idx0) rfl rfl) ?_
        refine RG_val rfl rfl (fun _ => rfl) (fun _ => X_move rfl rfl) ?_
        refine RG_val rfl rfl (fun _ => rfl) (fun _ => X_rem rfl rfl rfl (by omega) (by omega)) ?_
        refine RG_val rfl rfl (fun _ => rfl) (fun _ => X_neq_f rfl rfl rfl (by omega)) ?_
        refine RG_val rfl rfl (fun _ => rfl) (fun _ => X_pick_f rfl rfl rfl) ?_
        refine RG_val rfl rfl (fun _ => rfl) (fun _ => X_move rfl rfl) ?_
        refine RG_val rfl rfl (fun _ => rfl) (fun _ => X_fieldAddr rfl rfl rfl (by simp only [Nat.zero_add] <;> rfl)) ?_
        refine RG_val rfl rfl (fun _ => rfl) (fun _ => X_load1 rfl rfl (by exact idx0) rfl rfl) ?_
        refine RG_val rfl rfl (fun _ => rfl) (fun _ => X_len_str rfl rfl rfl) ?_
        refine RG_val rfl rfl (fun _ => rfl) (fun _ => X_eql_f rfl rfl rfl (by omega)) ?_
        refine RG_val rfl rfl (fun _ => rfl) (fun _ => X_pick_f rfl rfl rfl) ?_
        refine RG_val rfl rfl (fun _ => rfl) (fun _ => X_move rfl rfl) ?_
        refine RG_val rfl rfl (fun _ => rfl) (fun _ => X_fieldAddr rfl rfl rfl (by simp only [Nat.zero_add] <;> rfl)) ?_
        refine RG_val rfl rfl (fun _ => rfl) (fun _ => X_load1 rfl rfl (by exact idx0) rfl rfl) ?_
        refine RG_val rfl rfl (fun _ => rfl) (fun _ => X_len_str rfl rfl rfl) ?_
        refine RG_val rfl rfl (fun _ => rfl) (fun _ => X_fieldAddr rfl rfl rfl (by simp only [Nat.zero_add] <;> rfl)) ?_
        refine RG_val rfl rfl (fun _ => rfl) (fun _ => X_load1 rfl rfl (by exact idx0) rfl rfl) ?_
        refine RG_val rfl rfl (fun _ => rfl) (fun _ => X_subW rfl rfl rfl (by exact wrap_i64_in (by omega) (by omega))) ?_
        refine RG_nil ?_
        refine RG_endv rfl (fun vs => by simp only [endE, List.cons_append, List.nil_append] <;> rfl) (fun vs => rfl) ?_
        refine WL_is (X_gtr_f rfl rfl rfl (by omega)) rfl rfl rfl ?_
        refine WL_is (X_pick_f rfl rfl rfl) rfl rfl rfl ?_
        (repeat (first | refine WL_nil ?_ | refine Then_normal ?_ | refine W_seq ?_ | refine W_skip ?_ | refine W_false rfl ?_))
        skip
        refine W_region rfl ?_
        refine WL_is (X_fieldAddr rfl rfl rfl (by simp only [Nat.zero_add] <;> rfl)) rfl rfl rfl ?_
        refine WL_is (X_load1 rfl rfl (by exact idx0) rfl rfl) rfl rfl rfl ?_
        refine WL_is (X_fieldAddr rfl rfl rfl (by simp only [Nat.zero_add] <;> rfl)) rfl rfl rfl ?_
        refine WL_is (X_load1 rfl rfl (by exact idx0) rfl rfl) rfl rfl rfl ?_
        refine WL_is (X_callv rfl rfl rfl Try.func14 rfl (by assumption)) rfl rfl rfl ?_
        refine WL_is (X_move rfl rfl) rfl rfl rfl ?_
        refine WL_is (X_extract rfl rfl rfl) rfl rfl rfl ?_
        refine WL_is (X_extract rfl rfl rfl) rfl rfl rfl ?_
        refine WL_is (X_assign rfl rfl) rfl rfl rfl ?_
        refine WL_is (X_assign rfl rfl) rfl rfl rfl ?_
        (repeat (first | refine WL_nil ?_ | refine Then_normal ?_ | refine W_seq ?_))
        skip
        refine W_region rfl ?_
        refine WL_is (X_move rfl rfl) rfl rfl rfl ?_
        refine WL_is (X_neq_f rfl rfl rfl (by omega)) rfl rfl rfl ?_
        (repeat (first | refine WL_nil ?_ | refine Then_normal ?_ | refine W_seq ?_ | refine W_skip ?_ | refine W_false rfl ?_))
        skip
        refine W_region rfl ?_
        refine WL_is (X_assign rfl rfl) rfl rfl rfl ?_
        (repeat (first | refine WL_nil ?_ | refine Then_normal ?_ | refine W_block ?_))
        refine W_loop (X := Nat) (L := fun k => ⟨[(17, .int .i64 (k : Int)), (15, .int .u64 (Wd : Int)), (14, .pointer (some ⟨xb, 0, none⟩)), (13, .int .i64 (i : Int)), (11, .int .i64 (at_ : Int)), (12, .string all), (9, .slice xa PL.length xc), (7, .slice ma 32 32), (2, .string s)], [], [blk xb [.int .i64 p1, .int .i64 p2, .int .i64 p3, .string p4] 32], h3⟩) (p := fun k => k ≤ 8) (μ := fun k => 8 - k) 0 ⟨(by repeat (first | exact SubE_nil | refine SubE_cons rfl ?_)), rfl, SubR.refl _, rfl⟩ (Nat.zero_le _) ?_
        intro k hk8
        by_cases hltk : (k : Int) < 8
        · have hkk : k < 8 := by omega
          have hbk := byte_back2 Wd k hkk
          rw [hWb k hkk] at hbk
          have hBk := hB0 k
          have hnn : (0 : Int) ≤ (Wd : Int) / 2 ^ (8 * (k : Int)).toNat := Int.ediv_nonneg (by omega) (Int.le_of_lt (Int.pow_pos (by decide)))
          by_cases hin1 : (k : Int) ≥ p3
          · by_cases hin2 : (k : Int) < p3 + (p4.size : Int)
            · rw [if_pos (by omega)] at hBk
              obtain ⟨c, hc0, hcn⟩ := chr_at (s := p4) (k := k - f) (by omega)
              have ekf : ((k : Int) - p3).toNat = k - f := by omega
              have hc : p4.data.toList[((k : Int) - p3).toNat]? = some c := by rw [ekf]; exact hc0
              have heq : ((B k : Nat) : Int) = (c.toNat : Int) := by rw [hBk, hcn]
              generalize B k = Bk at heq hbk
              (repeat (first | refine W_seq ?_))
              refine W_region rfl ?_
              refine WL_is (X_move rfl rfl) rfl rfl rfl ?_
              refine WL_is (X_lss_t rfl rfl rfl (by omega)) rfl rfl rfl ?_
              (repeat (first | refine WL_nil ?_ | refine Then_normal ?_ | refine W_seq ?_ | refine W_skip ?_ | refine W_block ?_ | refine W_true rfl ?_))
              skip
              refine W_region rfl ?_
              refine WL_is (X_assign rfl rfl) rfl rfl rfl ?_
              (repeat (first | refine WL_nil ?_ | refine Then_normal ?_ | refine W_seq ?_))
              skip
              refine W_region rfl ?_
              refine WL_is (X_move rfl rfl) rfl rfl rfl ?_
              refine WL_is (X_fieldAddr rfl rfl rfl (by simp only [Nat.zero_add] <;> rfl)) rfl rfl rfl ?_
              refine WL_is (X_load1 rfl rfl (by exact idx0) rfl rfl) rfl rfl rfl ?_
              refine WL_is (X_geq_t rfl rfl rfl (by omega)) rfl rfl rfl ?_
              refine WL_is (X_move rfl rfl) rfl rfl rfl ?_
              refine WL_is (X_move rfl rfl) rfl rfl rfl ?_
              refine WL_is (X_fieldAddr rfl rfl rfl (by simp only [Nat.zero_add] <;> rfl)) rfl rfl rfl ?_
              refine WL_is (X_load1 rfl rfl (by exact idx0) rfl rfl) rfl rfl rfl ?_
              refine WL_is (X_fieldAddr rfl rfl rfl (by simp only [Nat.zero_add] <;> rfl)) rfl rfl rfl ?_
              refine WL_is (X_load1 rfl rfl (by exact idx0) rfl rfl) rfl rfl rfl ?_
              refine WL_is (X_len_str rfl rfl rfl) rfl rfl rfl ?_
              refine WL_is (X_addW rfl rfl rfl (by exact wrap_i64_in (by omega) (by omega))) rfl rfl rfl ?_
              refine WL_is (X_lss_t rfl rfl rfl (by omega)) rfl rfl rfl ?_
              refine WL_is (X_pick_t rfl rfl rfl) rfl rfl rfl ?_
              (repeat (first | refine WL_nil ?_ | refine Then_normal ?_ | refine W_true rfl ?_))
              skip
              refine W_region rfl ?_
              refine WL_is (X_fieldAddr rfl rfl rfl (by simp only [Nat.zero_add] <;> rfl)) rfl rfl rfl ?_
              refine WL_is (X_load1 rfl rfl (by exact idx0) rfl rfl) rfl rfl rfl ?_
              refine WL_is (X_move rfl rfl) rfl rfl rfl ?_
              refine WL_is (X_fieldAddr rfl rfl rfl (by simp only [Nat.zero_add] <;> rfl)) rfl rfl rfl ?_
              refine WL_is (X_load1 rfl rfl (by exact idx0) rfl rfl) rfl rfl rfl ?_
              refine WL_is (X_subW rfl rfl rfl (by exact wrap_i64_in (by omega) (by omega))) rfl rfl rfl ?_
              refine WL_is (X_index_str rfl rfl rfl rfl (by omega) (by assumption)) rfl rfl rfl ?_
              refine WL_is (X_assign rfl rfl) rfl rfl rfl ?_
              (repeat (first | refine WL_nil ?_ | refine Then_normal ?_ | refine W_seq ?_))
              skip
              refine W_region rfl ?_
              refine WL_is (X_move rfl rfl) rfl rfl rfl ?_
              refine WL_is (X_move rfl rfl) rfl rfl rfl ?_
              refine WL_is (X_mulW rfl rfl rfl (by exact wrap_i64_in (by omega) (by omega))) rfl rfl rfl ?_
              refine WL_is (X_convW rfl rfl rfl rfl (by exact wrap_u64_in (by omega) (by omega))) rfl rfl rfl ?_
              refine WL_is (X_shr rfl rfl rfl (by omega) (by simp [IntKind.bits] <;> omega)) rfl rfl rfl ?_
              refine WL_is (X_conv rfl rfl rfl rfl) rfl rfl rfl ?_
              rw [hbk]
              refine WL_is (X_move rfl rfl) rfl rfl rfl ?_
              refine WL_is (X_neq_f rfl rfl rfl (by omega)) rfl rfl rfl ?_
              (repeat (first | refine WL_nil ?_ | refine Then_normal ?_ | refine W_skip ?_ | refine inBlk_normal ?_ | refine W_false rfl ?_))
              skip
              refine W_region rfl ?_
              refine WL_is (X_move rfl rfl) rfl rfl rfl ?_
              refine WL_is (X_addW rfl rfl rfl (by exact wrap_i64_in (by omega) (by omega))) rfl rfl rfl ?_
              refine WL_is (X_assign rfl rfl) rfl rfl rfl ?_
              (repeat (first | refine WL_nil ?_ | refine Then_normal ?_))
              exact ⟨k + 1, ⟨(by repeat (first | exact SubE_nil | refine SubE_cons rfl ?_)), rfl, SubR.refl _, rfl⟩, by omega, by omega⟩
            · rw [if_neg (by omega)] at hBk
              have heq : ((B k : Nat) : Int) = 0 := by rw [hBk]; rfl
              generalize B k = Bk at heq hbk
              (repeat (first | refine W_seq ?_))
              refine W_region rfl ?_
              refine WL_is (X_move rfl rfl) rfl rfl rfl ?_
              refine WL_is (X_lss_t rfl rfl rfl (by omega)) rfl rfl rfl ?_
              (repeat (first | refine WL_nil ?_ | refine Then_normal ?_ | refine W_seq ?_ | refine W_skip ?_ | refine W_block ?_ | refine W_true rfl ?_))
              skip
              refine W_region rfl ?_
              refine WL_is (X_assign rfl rfl) rfl rfl rfl ?_
              (repeat (first | refine WL_nil ?_ | refine Then_normal ?_ | refine W_seq ?_))
              skip
              refine W_region rfl ?_
              refine WL_is (X_move rfl rfl) rfl rfl rfl ?_
              refine WL_is (X_fieldAddr rfl rfl rfl (by simp only [Nat.zero_add] <;> rfl)) rfl rfl rfl ?_
              refine WL_is (X_load1 rfl rfl (by exact idx0) rfl rfl) rfl rfl rfl ?_
              refine WL_is (X_geq_t rfl rfl rfl (by omega)) rfl rfl rfl ?_
              refine WL_is (X_move rfl rfl) rfl rfl rfl ?_
              refine WL_is (X_move rfl rfl) rfl rfl rfl ?_
              refine WL_is (X_fieldAddr rfl rfl rfl (by simp only [Nat.zero_add] <;> rfl)) rfl rfl rfl ?_
              refine WL_is (X_load1 rfl rfl (by exact idx0) rfl rfl) rfl rfl rfl ?_
              refine WL_is (X_fieldAddr rfl rfl rfl (by simp only [Nat.zero_add] <;> rfl)) rfl rfl rfl ?_
              refine WL_is (X_load1 rfl rfl (by exact idx0) rfl rfl) rfl rfl rfl ?_
              refine WL_is (X_len_str rfl rfl rfl) rfl rfl rfl ?_
              refine WL_is (X_addW rfl rfl rfl (by exact wrap_i64_in (by omega) (by omega))) rfl rfl rfl ?_
              refine WL_is (X_lss_f rfl rfl rfl (by omega)) rfl rfl rfl ?_
              refine WL_is (X_pick_t rfl rfl rfl) rfl rfl rfl ?_
              (repeat (first | refine WL_nil ?_ | refine Then_normal ?_ | refine W_seq ?_ | refine W_skip ?_ | refine W_false rfl ?_))
              skip
              refine W_region rfl ?_
              refine WL_is (X_move rfl rfl) rfl rfl rfl ?_
              refine WL_is (X_move rfl rfl) rfl rfl rfl ?_
              refine WL_is (X_mulW rfl rfl rfl (by exact wrap_i64_in (by omega) (by omega))) rfl rfl rfl ?_
              refine WL_is (X_convW rfl rfl rfl rfl (by exact wrap_u64_in (by omega) (by omega))) rfl rfl rfl ?_
              refine WL_is (X_shr rfl rfl rfl (by omega) (by simp [IntKind.bits] <;> omega)) rfl rfl rfl ?_
              refine WL_is (X_conv rfl rfl rfl rfl) rfl rfl rfl ?_
              rw [hbk]
              refine WL_is (X_move rfl rfl) rfl rfl rfl ?_
              refine WL_is (X_neq_f rfl rfl rfl (by omega)) rfl rfl rfl ?_
              (repeat (first | refine WL_nil ?_ | refine Then_normal ?_ | refine W_skip ?_ | refine inBlk_normal ?_ | refine W_false rfl ?_))
              skip
              refine W_region rfl ?_
              refine WL_is (X_move rfl rfl) rfl rfl rfl ?_
              refine WL_is (X_addW rfl rfl rfl (by exact wrap_i64_in (by omega) (by omega))) rfl rfl rfl ?_
              refine WL_is (X_assign rfl rfl) rfl rfl rfl ?_
              (repeat (first | refine WL_nil ?_ | refine Then_normal ?_))
              exact ⟨k + 1, ⟨(by repeat (first | exact SubE_nil | refine SubE_cons rfl ?_)), rfl, SubR.refl _, rfl⟩, by omega, by omega⟩
          · rw [if_neg (by omega)] at hBk
            have heq : ((B k : Nat) : Int) = 0 := by rw [hBk]; rfl
            generalize B k = Bk at heq hbk
            (repeat (first | refine W_seq ?_))
            refine W_region rfl ?_
            refine WL_is (X_move rfl rfl) rfl rfl rfl ?_
            refine WL_is (X_lss_t rfl rfl rfl (by omega)) rfl rfl rfl ?_
            (repeat (first | refine WL_nil ?_ | refine Then_normal ?_ | refine W_seq ?_ | refine W_skip ?_ | refine W_block ?_ | refine W_true rfl ?_))
            skip
            refine W_region rfl ?_
            refine WL_is (X_assign rfl rfl) rfl rfl rfl ?_
            (repeat (first | refine WL_nil ?_ | refine Then_normal ?_ | refine W_seq ?_))
            skip
            refine W_region rfl ?_
            refine WL_is (X_move rfl rfl) rfl rfl rfl ?_
            refine WL_is (X_fieldAddr rfl rfl rfl (by simp only [Nat.zero_add] <;> rfl)) rfl rfl rfl ?_
            refine WL_is (X_load1 rfl rfl (by exact idx0) rfl rfl) rfl rfl rfl ?_
            refine WL_is (X_geq_f rfl rfl rfl (by omega)) rfl rfl rfl ?_
            refine WL_is (X_move rfl rfl) rfl rfl rfl ?_
            refine WL_off rfl rfl rfl ?_
            refine WL_off rfl rfl rfl ?_
            refine WL_off rfl rfl rfl ?_
            refine WL_off rfl rfl rfl ?_
            refine WL_off rfl rfl rfl ?_
            refine WL_off rfl rfl rfl ?_
            refine WL_off rfl rfl rfl ?_
            refine WL_off rfl rfl rfl ?_
            refine WL_is (X_pick_f rfl rfl rfl) rfl rfl rfl ?_
            (repeat (first | refine WL_nil ?_ | refine Then_normal ?_ | refine W_seq ?_ | refine W_skip ?_ | refine W_false rfl ?_))
            skip
            refine W_region rfl ?_
            refine WL_is (X_move rfl rfl) rfl rfl rfl ?_
            refine WL_is (X_move rfl rfl) rfl rfl rfl ?_
            refine WL_is (X_mulW rfl rfl rfl (by exact wrap_i64_in (by omega) (by omega))) rfl rfl rfl ?_
            refine WL_is (X_convW rfl rfl rfl rfl (by exact wrap_u64_in (by omega) (by omega))) rfl rfl rfl ?_
            refine WL_is (X_shr rfl rfl rfl (by omega) (by simp [IntKind.bits] <;> omega)) rfl rfl rfl ?_
            refine WL_is (X_conv rfl rfl rfl rfl) rfl rfl rfl ?_
            rw [hbk]
            refine WL_is (X_move rfl rfl) rfl rfl rfl ?_
            refine WL_is (X_neq_f rfl rfl rfl (by omega)) rfl rfl rfl ?_
            (repeat (first | refine WL_nil ?_ | refine Then_normal ?_ | refine W_skip ?_ | refine inBlk_normal ?_ | refine W_false rfl ?_))
            skip
            refine W_region rfl ?_
            refine WL_is (X_move rfl rfl) rfl rfl rfl ?_
            refine WL_is (X_addW rfl rfl rfl (by exact wrap_i64_in (by omega) (by omega))) rfl rfl rfl ?_
            refine WL_is (X_assign rfl rfl) rfl rfl rfl ?_
            (repeat (first | refine WL_nil ?_ | refine Then_normal ?_))
            exact ⟨k + 1, ⟨(by repeat (first | exact SubE_nil | refine SubE_cons rfl ?_)), rfl, SubR.refl _, rfl⟩, by omega, by omega⟩
        · have hat2 : (at_ : Int) + (p4.size : Int) = ((o + min (stP o (i + 1)) s.size : Nat) : Int) := by omega
          (repeat (first | refine W_seq ?_))
          refine W_region rfl ?_
          refine WL_is (X_move rfl rfl) rfl rfl rfl ?_
          refine WL_is (X_lss_f rfl rfl rfl (by omega)) rfl rfl rfl ?_
          (repeat (first | refine WL_nil ?_ | refine Then_normal ?_ | refine W_seq ?_ | refine W_exit ?_ | refine Then_exit ?_ | refine inBlk_here ?_ | refine W_false rfl ?_))
          skip
          refine W_region rfl ?_
          refine WL_is (X_move rfl rfl) rfl rfl rfl ?_
          refine WL_is (X_fieldAddr rfl rfl rfl (by simp only [Nat.zero_add] <;> rfl)) rfl rfl rfl ?_
          refine WL_is (X_load1 rfl rfl (by exact idx0) rfl rfl) rfl rfl rfl ?_
          refine WL_is (X_addS rfl rfl rfl (by omega)) rfl rfl rfl ?_
          refine WL_is (X_assign rfl rfl) rfl rfl rfl ?_
          (repeat (first | refine WL_nil ?_ | refine Then_normal ?_))
          skip
          refine W_region rfl ?_
          refine WL_is (X_move rfl rfl) rfl rfl rfl ?_
          refine WL_is (X_fieldAddr rfl rfl rfl (by simp only [Nat.zero_add] <;> rfl)) rfl rfl rfl ?_
          refine WL_is (X_load1 rfl rfl (by exact idx0) rfl rfl) rfl rfl rfl ?_
          refine WL_is (X_len_str rfl rfl rfl) rfl rfl rfl ?_
          refine WL_is (X_addW rfl rfl rfl (by exact wrap_i64_in (by omega) (by omega))) rfl rfl rfl ?_
          refine WL_is (X_assign rfl rfl) rfl rfl rfl ?_
          (repeat (first | refine WL_nil ?_ | refine Then_normal ?_ | refine inBlk_normal ?_))
          skip
          refine W_region rfl ?_
          refine WL_is (X_move rfl rfl) rfl rfl rfl ?_
          refine WL_is (X_addW rfl rfl rfl (by exact wrap_i64_in (by omega) (by omega))) rfl rfl rfl ?_
          refine WL_is (X_assign rfl rfl) rfl rfl rfl ?_
          (repeat (first | refine WL_nil ?_ | refine Then_normal ?_))
          rw [f10, hat2]
          exact ⟨⟨i + 1, h3⟩, ⟨(by repeat (first | exact SubE_nil | refine SubE_cons rfl ?_)), rfl, SubR.none _, rfl⟩, ⟨hic, hle⟩, by dsimp only; omega⟩
      · have hie : i = cntP o s.size := by omega
        have hge := stP_ge (off := o) (Nat.le_refl (cntP o s.size))
        subst hie
        rw [Nat.min_eq_right hge, ByteArray.extract_zero_size]
        have hss := beqB s
        have hal := hal h3
        (repeat (first | refine W_seq ?_))
        refine W_region rfl ?_
        refine WL_is (X_move rfl rfl) rfl rfl rfl ?_
        refine WL_is (X_move rfl rfl) rfl rfl rfl ?_
        refine WL_is (X_len_sl rfl rfl rfl (by assumption)) rfl rfl rfl ?_
        refine WL_is (X_lss_f rfl rfl rfl (by omega)) rfl rfl rfl ?_
        (repeat (first | refine WL_nil ?_ | refine Then_normal ?_ | refine W_seq ?_ | refine W_exit ?_ | refine Then_exit ?_ | refine inBlk_here ?_ | refine W_false rfl ?_))
        skip
        refine W_region rfl ?_
        refine WL_is (X_move rfl rfl) rfl rfl rfl ?_
        refine WL_is (X_move rfl rfl) rfl rfl rfl ?_
        refine WL_is (X_eqS_c rfl rfl rfl (by assumption)) rfl rfl rfl ?_
        refine WL_is (X_move rfl rfl) rfl rfl rfl ?_
        refine WL_is (X_callv rfl rfl rfl Try.func8 rfl (by assumption)) rfl rfl rfl ?_
        refine WL_is (X_pick_t rfl rfl rfl) rfl rfl rfl ?_
        refine WL_is (X_assign rfl rfl) rfl rfl rfl ?_
        (repeat (first | refine WL_nil ?_ | refine Then_normal ?_ | refine W_ret ?_))
        refine Body_end rfl rfl rfl (SubR.none _) ?_
        rfl
end Go.Proofs.Ytoocbfpomamdeaa
