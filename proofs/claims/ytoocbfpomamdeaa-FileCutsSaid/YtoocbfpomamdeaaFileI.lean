/- Files: cut off. -/
import Derived.Test.YtoocbfpomamdeaaFileH
namespace Go.Proofs.Ytoocbfpomamdeaa
set_option maxRecDepth 4000
open Go Go.Par PH
instance decI : Dec encI 1 where
  len _ := rfl
  dec c := match c with
    | [.int .i64 a] => some a
    | _ => none
  ok c x h := by
    revert h
    split
    · intro h; cases h; rfl
    · intro h; cases h
section
variable {P : Program} {n : Nat} {o : Oper} {E : Env} {D : List Deferred} {R : List SL} {h : PH}
theorem X_index_sub {x y : Operand} {t e : TypeId} {b len cap sz i j : Nat} {k : IntKind} (ho : o.op = .indexAddr t x y) (ht : slOf P t = some e) (hs : szOf P e = some sz)
    (hx : ev E x = some (.slice (some ⟨b, i * sz, none⟩) len cap)) (hy : ev E y = some (.int k (j : Int))) (h1 : j < len) :
    Exec P n o ⟨E, D, R, h⟩ (Is (.pointer (some ⟨b, spot (i + j) sz 0, none⟩)) R h) := by
  have e : spot (i + j) sz 0 = i * sz + j * sz := by rw [spot_eq, Nat.add_mul]; omega
  rw [e]
  exact X_index_own ho ht hs hx hy (by omega) (by omega) (by simp)
end
theorem UpdE_capLe {α : Type} {enc : α → List Value} {R : List SL} {h : PH} {sz m cap : Nat} {a : Option Addr} {L : List α} {e : TypeId} (i : Nat) (hi : R[i]? = some (rowL enc (.slice a m cap) e sz L)) :
    UpdE R h fun R' h' => R' = R ∧ h' = h ∧ L.length ≤ cap := fun κ h0 f w hf s => by
  obtain ⟨_, a', cap', e, hle, _⟩ := s.shape hi
  cases e
  exact ⟨R, h, le.refl _, ⟨rfl, rfl, hle⟩, s⟩
def cutE (m : List Int) (size : Int) : Int := if mayM m = false ∨ size < 0 ∨ 8192 < size then 2 else 0
/-- How many blocks stay. -/
def stayN (size : Int) : Nat := (size.toNat + 255) / 256
def leftK (m : List Int) (w k : Nat) : List Int := m.take w ++ (List.replicate k 0 ++ m.drop (w + k))
def goneK (m : List Int) (w k : Nat) : List Int := ((m.drop w).take k).filter fun x => decide (¬ x = 0)
def leftC (m : List Int) (size : Int) : List Int := if cutE m size = 0 then leftK m (stayN size) (32 - stayN size) else []
def goneC (m : List Int) (size : Int) : List Int := if cutE m size = 0 then goneK m (stayN size) (32 - stayN size) else []
def pc0 : Pc := (0, 0, 0, ⟨#[]⟩)
def tailT (m : List Int) (size : Int) : Pc := if 0 < size % 256 ∧ ¬ m[(size / 256).toNat]?.getD 0 = 0 then (m[(size / 256).toNat]?.getD 0, size % 256 / 8, size % 256 % 8, ⟨#[]⟩) else pc0
def tailC (m : List Int) (size : Int) : Pc := if cutE m size = 0 then tailT m size else pc0
abbrev pcV (p : Pc) : Value := .agg #[.int .i64 p.1, .int .i64 p.2.1, .int .i64 p.2.2.1, .string p.2.2.2]
def CutA (m : List Int) (size : Int) (r : Value) (R' : List SL) (h' : PH) : Prop := R' = [] ∧ ∃ v g, r = .tuple #[v, g, pcV (tailC m size), .int .i64 (cutE m size)] ∧ Sl encI 1 h' v (leftC m size) ∧ Sl encI 1 h' g (goneC m size)
theorem CutA.bad {m : List Int} {size : Int} {h : PH} (he : cutE m size = 2) : CutA m size (.tuple #[.slice none 0 0, .slice none 0 0, pcV pc0, .int .i64 2]) [] h := by
  refine ⟨rfl, .slice none 0 0, .slice none 0 0, ?_, ?_, ?_⟩
  · unfold tailC; rw [he, if_neg (by decide)]
  · unfold leftC; rw [he, if_neg (by decide)]; exact Sl.nil
  · unfold goneC; rw [he, if_neg (by decide)]; exact Sl.nil
theorem leftK_len {m : List Int} {w k : Nat} (hm : m.length = 32) (h : w + k ≤ 32) : (leftK m w k).length = 32 := by simp [leftK, hm]; omega
theorem leftK_zero {m : List Int} {w : Nat} : leftK m w 0 = m := by simp [leftK]
theorem leftK_at {m : List Int} {w k j : Nat} (hm : m.length = 32) (h : w + k ≤ 32) : (leftK m w k)[j]? = if w ≤ j ∧ j < w + k then some 0 else m[j]? := by
  have hmin : min w 32 = w := by omega
  have e1 : (m.take w).length = w := by simp [hm, hmin]
  unfold leftK
  rw [List.getElem?_append, e1]
  by_cases h1 : j < w
  · rw [if_pos h1, if_neg (by omega), List.getElem?_take, if_pos h1]
  · rw [if_neg h1, List.getElem?_append, List.length_replicate]
    by_cases h2 : j - w < k
    · rw [if_pos h2, if_pos (by omega), List.getElem?_replicate, if_pos h2]
    · rw [if_neg h2, if_neg (by omega), List.getElem?_drop]; congr 1; omega
theorem leftK_get {m : List Int} {w k : Nat} (hm : m.length = 32) (h : w + k < 32) : ∀ hh, (leftK m w k)[w + k]'hh = m[w + k]'(by omega) := by
  intro hh
  have h1 := leftK_at (j := w + k) hm (by omega : w + k ≤ 32)
  rw [if_neg (by omega), List.getElem?_eq_getElem hh, List.getElem?_eq_getElem (by omega)] at h1
  exact Option.some.inj h1
theorem leftK_set {m : List Int} {w k : Nat} (hm : m.length = 32) (h : w + k < 32) : (leftK m w k).set (w + k) 0 = leftK m w (k + 1) := by
  apply List.ext_getElem?
  intro j
  rw [List.getElem?_set, leftK_len hm (by omega), leftK_at hm (by omega), leftK_at hm (by omega)]
  by_cases e : w + k = j
  · rw [if_pos e, if_pos (by omega), if_pos (by omega)]
  · rw [if_neg e]
    by_cases h1 : w ≤ j ∧ j < w + k
    · rw [if_pos h1, if_pos (by omega)]
    · rw [if_neg h1, if_neg (by omega)]
theorem leftK_same {m : List Int} {w k : Nat} (hm : m.length = 32) (h : w + k < 32) (h0 : m[w + k]'(by omega) = 0) : leftK m w k = leftK m w (k + 1) := by
  apply List.ext_getElem?
  intro j
  rw [leftK_at hm (by omega), leftK_at hm (by omega)]
  by_cases e : w + k = j
  · subst e
    rw [if_neg (by omega), if_pos (by omega), List.getElem?_eq_getElem (by omega), h0]
  · by_cases h1 : w ≤ j ∧ j < w + k
    · rw [if_pos h1, if_pos (by omega)]
    · rw [if_neg h1, if_neg (by omega)]
theorem goneK_succ {m : List Int} {w k : Nat} (hm : m.length = 32) (h : w + k < 32) : goneK m w (k + 1) = goneK m w k ++ (if m[w + k]'(by omega) = 0 then [] else [m[w + k]'(by omega)]) := by
  unfold goneK
  rw [List.take_add_one, List.getElem?_eq_getElem (by simp; omega), List.filter_append]
  congr 1
  simp only [Option.toList_some, List.getElem_drop]
  by_cases h0 : m[w + k]'(by omega) = 0 <;> simp [h0]
theorem goneK_len {m : List Int} {w k : Nat} : (goneK m w k).length ≤ k := by
  unfold goneK
  refine Nat.le_trans (List.length_filter_le _ _) ?_
  simp; omega
structure QX where
  k : Nat
  g : Value
  h : PH
attribute [local irreducible] W WL Does Exec Body Then inBlk RG WR row obj pblk
set_option maxHeartbeats 2000000 in
theorem cut_fn (h : PH) (m : List Int) (v : Value) (size : Int) (hv : Sl encI 1 h v m) (hl : m.length ≤ 1000000) : Does Try.prog 16 [v, .int .i64 size] [] h (Ret (CutA m size)) := by
  have hm := may_fn h m v hv (by omega)
  refine Does_of_W Try.func16 rfl (n := 72) rfl rfl (by simp only [argE, Nat.reduceAdd] <;> rfl) ?_
  by_cases hbad : cutE m size = 2
  · have hx : mayM m = false ∨ (mayM m = true ∧ (size < 0 ∨ (¬ size < 0 ∧ size > 8192))) := by
      unfold cutE at hbad
      split at hbad
      · rename_i h1
        cases hM : mayM m with
        | false => exact .inl rfl
        | true => rw [hM] at h1; refine .inr ⟨rfl, ?_⟩; rcases h1 with h1 | h1 | h1 <;> first | cases h1 | omega
      · cases hbad
    (repeat (first | refine W_seq ?_))
    refine W_region rfl ?_
    refine WL_is (X_assign rfl rfl) rfl rfl rfl ?_
    refine WL_is (X_assign rfl rfl) rfl rfl rfl ?_
    (refine WL_alloc rfl rfl rfl rfl rfl rfl ?_; intro b_)
    refine WL_is (X_assign rfl rfl) rfl rfl rfl ?_
    (repeat (first | refine WL_nil ?_ | refine Then_normal ?_ | refine W_seq ?_))
    rcases hx with hM | ⟨hM, h1 | ⟨h1, h2⟩⟩
    · rw [hM] at hm
      skip
      refine W_region rfl ?_
      refine WL_is (X_move rfl rfl) rfl rfl rfl ?_
      refine WL_is (X_callv rfl rfl rfl Try.func19 rfl (by assumption)) rfl rfl rfl ?_
      refine WL_is (X_not rfl rfl) rfl rfl rfl ?_
      refine WL_is (X_move rfl rfl) rfl rfl rfl ?_
      refine WL_off rfl rfl rfl ?_
      refine WL_off rfl rfl rfl ?_
      refine WL_is (X_pick_t rfl rfl rfl) rfl rfl rfl ?_
      refine WL_is (X_move rfl rfl) rfl rfl rfl ?_
      refine WL_off rfl rfl rfl ?_
      refine WL_off rfl rfl rfl ?_
      refine WL_is (X_pick_t rfl rfl rfl) rfl rfl rfl ?_
      (repeat (first | refine WL_nil ?_ | refine Then_normal ?_ | refine W_seq ?_ | refine W_true rfl ?_))
      skip
      refine W_region rfl ?_
      refine WL_is (X_build rfl rfl rfl) rfl rfl rfl ?_
      refine WL_is (X_assign rfl rfl) rfl rfl rfl ?_
      refine WL_is (X_assign rfl rfl) rfl rfl rfl ?_
      refine WL_store rfl rfl rfl (by exact idx0) rfl rfl rfl rfl rfl rfl rfl rfl rfl ?_
      refine WL_is (X_assign rfl rfl) rfl rfl rfl ?_
      (repeat (first | refine WL_nil ?_ | refine Then_normal ?_ | refine W_ret ?_ | refine Then_ret ?_))
      refine Body_vals (.cons (.tmp rfl) (.cons (.tmp rfl) (.cons (.cellA rfl (by exact idx0) rfl rfl rfl) (.cons (.tmp rfl) .nil)))) rfl ?_
      exact UpdE.sub (R1 := []) (SubR.none _) (CutA.bad hbad)
    · rw [hM] at hm
      skip
      refine W_region rfl ?_
      refine WL_is (X_move rfl rfl) rfl rfl rfl ?_
      refine WL_is (X_callv rfl rfl rfl Try.func19 rfl (by assumption)) rfl rfl rfl ?_
      refine WL_is (X_not rfl rfl) rfl rfl rfl ?_
      refine WL_is (X_move rfl rfl) rfl rfl rfl ?_
      refine WL_is (X_move rfl rfl) rfl rfl rfl ?_
      refine WL_is (X_lss_t rfl rfl rfl (by omega)) rfl rfl rfl ?_
      refine WL_is (X_pick_f rfl rfl rfl) rfl rfl rfl ?_
      refine WL_is (X_move rfl rfl) rfl rfl rfl ?_
      refine WL_off rfl rfl rfl ?_
      refine WL_off rfl rfl rfl ?_
      refine WL_is (X_pick_t rfl rfl rfl) rfl rfl rfl ?_
      (repeat (first | refine WL_nil ?_ | refine Then_normal ?_ | refine W_seq ?_ | refine W_true rfl ?_))
      skip
      refine W_region rfl ?_
      refine WL_is (X_build rfl rfl rfl) rfl rfl rfl ?_
      refine WL_is (X_assign rfl rfl) rfl rfl rfl ?_
      refine WL_is (X_assign rfl rfl) rfl rfl rfl ?_
      refine WL_store rfl rfl rfl (by exact idx0) rfl rfl rfl rfl rfl rfl rfl rfl rfl ?_
      refine WL_is (X_assign rfl rfl) rfl rfl rfl ?_
      (repeat (first | refine WL_nil ?_ | refine Then_normal ?_ | refine W_ret ?_ | refine Then_ret ?_))
      refine Body_vals (.cons (.tmp rfl) (.cons (.tmp rfl) (.cons (.cellA rfl (by exact idx0) rfl rfl rfl) (.cons (.tmp rfl) .nil)))) rfl ?_
      exact UpdE.sub (R1 := []) (SubR.none _) (CutA.bad hbad)
    · rw [hM] at hm
      skip
      refine W_region rfl ?_
      refine WL_is (X_move rfl rfl) rfl rfl rfl ?_
      refine WL_is (X_callv rfl rfl rfl Try.func19 rfl (by assumption)) rfl rfl rfl ?_
      refine WL_is (X_not rfl rfl) rfl rfl rfl ?_
      refine WL_is (X_move rfl rfl) rfl rfl rfl ?_
      refine WL_is (X_move rfl rfl) rfl rfl rfl ?_
      refine WL_is (X_lss_f rfl rfl rfl (by omega)) rfl rfl rfl ?_
      refine WL_is (X_pick_f rfl rfl rfl) rfl rfl rfl ?_
      refine WL_is (X_move rfl rfl) rfl rfl rfl ?_
      refine WL_is (X_move rfl rfl) rfl rfl rfl ?_
      refine WL_is (X_gtr_t rfl rfl rfl (by omega)) rfl rfl rfl ?_
      refine WL_is (X_pick_f rfl rfl rfl) rfl rfl rfl ?_
      (repeat (first | refine WL_nil ?_ | refine Then_normal ?_ | refine W_seq ?_ | refine W_true rfl ?_))
      skip
      refine W_region rfl ?_
      refine WL_is (X_build rfl rfl rfl) rfl rfl rfl ?_
      refine WL_is (X_assign rfl rfl) rfl rfl rfl ?_
      refine WL_is (X_assign rfl rfl) rfl rfl rfl ?_
      refine WL_store rfl rfl rfl (by exact idx0) rfl rfl rfl rfl rfl rfl rfl rfl rfl ?_
      refine WL_is (X_assign rfl rfl) rfl rfl rfl ?_
      (repeat (first | refine WL_nil ?_ | refine Then_normal ?_ | refine W_ret ?_ | refine Then_ret ?_))
      refine Body_vals (.cons (.tmp rfl) (.cons (.tmp rfl) (.cons (.cellA rfl (by exact idx0) rfl rfl rfl) (.cons (.tmp rfl) .nil)))) rfl ?_
      exact UpdE.sub (R1 := []) (SubR.none _) (CutA.bad hbad)
  · have hM : mayM m = true := by
      cases hM : mayM m with
      | true => rfl
      | false => exact absurd (by simp [cutE, hM]) hbad
    have h1 : ¬ size < 0 := fun hh => hbad (by simp [cutE, hh])
    have h2 : ¬ size > 8192 := fun hh => hbad (by simp [cutE, hh])
    have he : cutE m size = 0 := by unfold cutE; rw [if_neg]; rintro (hh | hh | hh) <;> first | (rw [hM] at hh; cases hh) | omega
    have hml := mayM_len hM
    rw [hM] at hm
    obtain ⟨z, rfl⟩ := Int.eq_ofNat_of_zero_le (by omega : 0 ≤ size)
    (repeat (first | refine W_seq ?_))
    refine W_region rfl ?_
    refine WL_is (X_assign rfl rfl) rfl rfl rfl ?_
    refine WL_is (X_assign rfl rfl) rfl rfl rfl ?_
    (refine WL_alloc rfl rfl rfl rfl rfl rfl ?_; intro b_)
    refine WL_is (X_assign rfl rfl) rfl rfl rfl ?_
    (repeat (first | refine WL_nil ?_ | refine Then_normal ?_ | refine W_seq ?_))
    generalize b_ = tb
    skip
    refine W_region rfl ?_
    refine WL_is (X_move rfl rfl) rfl rfl rfl ?_
    refine WL_is (X_callv rfl rfl rfl Try.func19 rfl (by assumption)) rfl rfl rfl ?_
    refine WL_is (X_not rfl rfl) rfl rfl rfl ?_
    refine WL_is (X_move rfl rfl) rfl rfl rfl ?_
    refine WL_is (X_move rfl rfl) rfl rfl rfl ?_
    refine WL_is (X_lss_f rfl rfl rfl (by omega)) rfl rfl rfl ?_
    refine WL_is (X_pick_f rfl rfl rfl) rfl rfl rfl ?_
    refine WL_is (X_move rfl rfl) rfl rfl rfl ?_
    refine WL_is (X_move rfl rfl) rfl rfl rfl ?_
    refine WL_is (X_gtr_f rfl rfl rfl (by omega)) rfl rfl rfl ?_
    refine WL_is (X_pick_f rfl rfl rfl) rfl rfl rfl ?_
    (repeat (first | refine WL_nil ?_ | refine Then_normal ?_ | refine W_seq ?_ | refine W_skip ?_ | refine W_false rfl ?_))
    skip
    refine W_region rfl ?_
    refine WL_is (X_move rfl rfl) rfl rfl rfl ?_
    refine WL_call rfl rfl rfl Try.func24 rfl rfl rfl rfl (cloneI_fn h m v hv hl) ?_
    rintro _ _ H1 L1 ⟨⟨a, cap, rfl⟩, rfl⟩
    simp only [List.cons_append, List.nil_append]
    refine WL_updE (UpdE.shapePos 0 rfl (by omega)) ?_
    rintro _ h2 - ⟨rfl, rfl, rb, rfl⟩
    refine WL_updE (UpdE_capLe 0 rfl) ?_
    rintro _ h2 - ⟨rfl, rfl, hcap⟩
    refine WL_is (X_assign rfl rfl) rfl rfl rfl ?_
    (repeat (first | refine WL_nil ?_ | refine Then_normal ?_ | refine W_seq ?_))
    skip
    refine W_region rfl ?_
    refine WL_is (X_move rfl rfl) rfl rfl rfl ?_
    refine WL_is (X_quoW rfl rfl rfl (by omega) (by omega) (by exact wrap_i64_in (by omega) (by omega))) rfl rfl rfl ?_
    refine WL_is (X_move rfl rfl) rfl rfl rfl ?_
    refine WL_is (X_rem rfl rfl rfl (by omega) (by omega)) rfl rfl rfl ?_
    refine WL_is (X_assign rfl rfl) rfl rfl rfl ?_
    refine WL_is (X_assign rfl rfl) rfl rfl rfl ?_
    (repeat (first | refine WL_nil ?_ | refine Then_normal ?_ | refine W_seq ?_))
    have hgt : ((z : Int) / 256).toNat = z / 256 := by omega
    have hsz : (stayN (z : Int)) = (z + 255) / 256 := by unfold stayN; rw [Int.toNat_natCast]
    have h0z : ∀ (hr : (z : Int) % 256 > 0), (z : Int) / 256 < 32 ∧ ((z : Int) / 256).toNat < m.length := fun hr => by omega
    skip
    refine W_region rfl ?_
    refine WL_is (X_move rfl rfl) rfl rfl rfl ?_
    refine WL_is (X_gtr rfl rfl rfl) rfl rfl rfl ?_
    (repeat (first | refine WL_nil ?_ | refine Then_normal ?_))
    refine W_cutT (X := Unit) (L := fun _ => ⟨[(4, .slice (some ⟨rb, 0, none⟩) m.length cap), (5, .slice none 0 0), (8, .int .i64 ((stayN (z : Int) : Nat) : Int)), (6, .pointer (some ⟨tb, 0, none⟩))], [], [rowL encI (.slice (some ⟨rb, 0, none⟩) m.length cap) 3 1 m, blk tb (encP (tailT m (z : Int))) 32], h2⟩) (p := fun _ => True) ?_ ?_
    · refine W_if (p := (z : Int) % 256 > 0) rfl (fun hr => ?_) (fun hr => ?_)
      · obtain ⟨q1, q2⟩ := h0z hr
        have hgd : m[((z : Int) / 256).toNat]?.getD 0 = m[((z : Int) / 256).toNat] := by rw [List.getElem?_eq_getElem q2]; rfl
        have hw1 : (z : Int) / 256 + 1 = ((stayN (z : Int) : Nat) : Int) := by omega
        by_cases hz : m[((z : Int) / 256).toNat] = 0
        · have ht : tailT m (z : Int) = pc0 := by unfold tailT; rw [hgd, if_neg (by omega)]
          (repeat (first | refine W_seq ?_))
          refine W_region rfl ?_
          refine WL_is (X_move rfl rfl) rfl rfl rfl ?_
          refine WL_is (X_move rfl rfl) rfl rfl rfl ?_
          refine WL_is (X_index_rowI rfl rfl (by exact idx0) rfl rfl rfl (by omega) (by omega)) rfl rfl rfl ?_
          refine WL_is (X_load_spot rfl rfl (by exact idx0) (by rfl) rfl (by omega) rfl) rfl rfl rfl ?_
          refine WL_is (X_neq_f rfl rfl rfl (by omega)) rfl rfl rfl ?_
          (repeat (first | refine WL_nil ?_ | refine Then_normal ?_ | refine W_skip ?_ | refine W_false rfl ?_))
          skip
          refine W_region rfl ?_
          refine WL_is (X_move rfl rfl) rfl rfl rfl ?_
          refine WL_is (X_addW rfl rfl rfl (by exact wrap_i64_in (by omega) (by omega))) rfl rfl rfl ?_
          refine WL_is (X_assign rfl rfl) rfl rfl rfl ?_
          (repeat (first | refine WL_nil ?_ | refine Then_normal ?_))
          rw [ht, hw1]
          exact ⟨(), ⟨(by repeat (first | exact SubE_nil | refine SubE_cons rfl ?_)), rfl, SubR.refl _, rfl⟩, trivial⟩
        · have ht : tailT m (z : Int) = (m[((z : Int) / 256).toNat], (z : Int) % 256 / 8, (z : Int) % 256 % 8, ⟨#[]⟩) := by unfold tailT; rw [hgd, if_pos ⟨hr, hz⟩]
          (repeat (first | refine W_seq ?_))
          refine W_region rfl ?_
          refine WL_is (X_move rfl rfl) rfl rfl rfl ?_
          refine WL_is (X_move rfl rfl) rfl rfl rfl ?_
          refine WL_is (X_index_rowI rfl rfl (by exact idx0) rfl rfl rfl (by omega) (by omega)) rfl rfl rfl ?_
          refine WL_is (X_load_spot rfl rfl (by exact idx0) (by rfl) rfl (by omega) rfl) rfl rfl rfl ?_
          refine WL_is (X_neq_t rfl rfl rfl (by omega)) rfl rfl rfl ?_
          (repeat (first | refine WL_nil ?_ | refine Then_normal ?_ | refine W_true rfl ?_))
          skip
          refine W_region rfl ?_
          refine WL_is (X_move rfl rfl) rfl rfl rfl ?_
          refine WL_is (X_move rfl rfl) rfl rfl rfl ?_
          refine WL_is (X_index_rowI rfl rfl (by exact idx0) rfl rfl rfl (by omega) (by omega)) rfl rfl rfl ?_
          refine WL_is (X_load_spot rfl rfl (by exact idx0) (by rfl) rfl (by omega) rfl) rfl rfl rfl ?_
          refine WL_is (X_move rfl rfl) rfl rfl rfl ?_
          refine WL_is (X_quoW rfl rfl rfl (by omega) (by omega) (by exact wrap_i64_in (by omega) (by omega))) rfl rfl rfl ?_
          refine WL_is (X_move rfl rfl) rfl rfl rfl ?_
          refine WL_is (X_rem rfl rfl rfl (by omega) (by omega)) rfl rfl rfl ?_
          refine WL_is (X_build rfl rfl rfl) rfl rfl rfl ?_
          refine WL_store rfl rfl rfl (by exact idx1) rfl rfl rfl rfl rfl rfl rfl rfl rfl ?_
          (repeat (first | refine WL_nil ?_ | refine Then_normal ?_))
          skip
          refine W_region rfl ?_
          refine WL_is (X_move rfl rfl) rfl rfl rfl ?_
          refine WL_is (X_addW rfl rfl rfl (by exact wrap_i64_in (by omega) (by omega))) rfl rfl rfl ?_
          refine WL_is (X_assign rfl rfl) rfl rfl rfl ?_
          (repeat (first | refine WL_nil ?_ | refine Then_normal ?_))
          rw [ht, hw1]
          exact ⟨(), ⟨(by repeat (first | exact SubE_nil | refine SubE_cons rfl ?_)), rfl, SubR.refl _, rfl⟩, trivial⟩
      · have hw1 : (z : Int) / 256 = ((stayN (z : Int) : Nat) : Int) := by omega
        have ht : tailT m (z : Int) = pc0 := by unfold tailT; rw [if_neg (by omega)]
        (repeat (first | refine Then_normal ?_ | refine W_skip ?_))
        rw [ht, hw1]
        exact ⟨(), ⟨(by repeat (first | exact SubE_nil | refine SubE_cons rfl ?_)), rfl, SubR.refl _, rfl⟩, trivial⟩
    · intro _ _
      have hw32 : stayN (z : Int) ≤ 32 := by omega
      have hfin : ∀ (g : Value) (h3 : PH), UpdE [rowL encI (.slice (some ⟨rb, 0, none⟩) m.length cap) 3 1 (leftK m (stayN (z : Int)) (32 - stayN (z : Int))), rowL encI g 3 1 (goneK m (stayN (z : Int)) (32 - stayN (z : Int))), blk tb (encP (tailT m (z : Int))) 32] h3
          (CutA m (z : Int) (.tuple #[.slice (some ⟨rb, 0, none⟩) m.length cap, g, pcV (tailT m (z : Int)), .int .i64 0])) := fun g h3 => by
        refine (UpdE.row 0 rfl (lenI _)).then ?_
        rintro _ h4 hl4 ⟨rfl, s1⟩
        simp only [List.eraseIdx_cons_zero]
        refine (UpdE.row 0 rfl (lenI _)).then ?_
        rintro _ h5 hl5 ⟨rfl, s2⟩
        simp only [List.eraseIdx_cons_zero]
        refine UpdE.sub (R1 := []) (SubR.none _) ⟨rfl, .slice (some ⟨rb, 0, none⟩) m.length cap, g, ?_, ?_, ?_⟩
        · unfold tailC; rw [he, if_pos rfl]
        · unfold leftC; rw [if_pos he]; exact s1.mono hl5
        · unfold goneC; rw [if_pos he]; exact s2
      generalize tailT m (z : Int) = tl at hfin ⊢
      obtain ⟨t1, t2, t3, t4⟩ := tl
      generalize stayN (z : Int) = w at hw32 hfin ⊢
      (repeat (first | refine W_seq ?_))
      refine W_region rfl ?_
      refine WL_is (X_move rfl rfl) rfl rfl rfl ?_
      refine WL_is (X_move rfl rfl) rfl rfl rfl ?_
      refine WL_is (X_sliceLoG (sz := 1) rfl rfl rfl rfl rfl (by omega)) rfl rfl rfl ?_
      have hlen : ((m.length - w : Nat) : Int) = 32 - (w : Int) := by omega
      refine WL_is (X_len rfl rfl rfl) rfl rfl rfl ?_
      refine WL_is (X_move rfl rfl) rfl rfl rfl ?_
      (repeat (first | refine WL_nil ?_ | refine Then_normal ?_ | refine W_block ?_))
      refine W_upd (Upd.nilrow (e := 3) (sz := 1)) ?_
      refine W_loop (X := QX) (L := fun x => ⟨[(52, .int .i64 (x.k : Int)), (51, .int .i64 ((m.length - w : Nat) : Int)), (50, .slice (if cap = w then some ⟨rb, 0, none⟩ else (some (⟨rb, 0, none⟩ : Addr)).map (·.add (w * 1))) (m.length - w) (cap - w)), (5, x.g), (8, .int .i64 (w : Int)), (4, .slice (some ⟨rb, 0, none⟩) m.length cap), (6, .pointer (some ⟨tb, 0, none⟩))], [],
          [rowL encI (.slice (some ⟨rb, 0, none⟩) m.length cap) 3 1 (leftK m w x.k), rowL encI x.g 3 1 (goneK m w x.k), blk tb (encP (t1, t2, t3, t4)) 32], x.h⟩) (p := fun x => x.k ≤ 32 - w) (μ := fun x => 32 - x.k) ⟨0, .slice none 0 0, h2⟩ ⟨(by repeat (first | exact SubE_nil | refine SubE_cons rfl ?_)), rfl, ?_, rfl⟩ (Nat.zero_le _) ?_
      · rw [leftK_zero]; exact SubR.of_perm (perm_front 1 rfl)
      · rintro ⟨k, g, h3⟩ hk
        dsimp only at hk ⊢
        have hkl := leftK_len (w := w) (k := k) hml (by omega)
        have hgl := goneK_len (m := m) (w := w) (k := k)
        by_cases hlt : (k : Int) < ((m.length - w : Nat) : Int)
        · have hwk : w + k < 32 := by omega
          have hls := leftK_set hml hwk
          have hgs := goneK_succ hml hwk
          have hge := leftK_get hml hwk
          have hck : ¬ cap = w := by omega
          have hadd : (w : Int) + (k : Int) = ((w + k : Nat) : Int) := by omega
          rw [if_neg hck]
          simp only [Option.map_some, add_spot, Nat.zero_add]
          (repeat (first | refine W_seq ?_))
          refine W_region rfl ?_
          refine WL_is (X_lss_t rfl rfl rfl (by omega)) rfl rfl rfl ?_
          (repeat (first | refine WL_nil ?_ | refine Then_normal ?_ | refine W_seq ?_ | refine W_skip ?_ | refine W_block ?_ | refine W_true rfl ?_))
          skip
          refine W_region rfl ?_
          refine WL_is (X_move rfl rfl) rfl rfl rfl ?_
          refine WL_is (X_index_sub (i := w) (j := k) rfl rfl rfl rfl rfl (by omega)) rfl rfl rfl ?_
          by_cases hz : m[w + k] = 0
          · have hsm := leftK_same hml hwk hz
            rw [if_pos hz, List.append_nil] at hgs
            refine WL_is (X_load_spot rfl rfl (by exact idx0) (by omega) rfl (by omega) rfl) rfl rfl rfl ?_
            rw [hge]
            refine WL_is (X_assign rfl rfl) rfl rfl rfl ?_
            refine WL_is (X_assign rfl rfl) rfl rfl rfl ?_
            (repeat (first | refine WL_nil ?_ | refine Then_normal ?_ | refine W_seq ?_))
            skip
            refine W_region rfl ?_
            refine WL_is (X_move rfl rfl) rfl rfl rfl ?_
            refine WL_is (X_neq_f rfl rfl rfl (by omega)) rfl rfl rfl ?_
            (repeat (first | refine WL_nil ?_ | refine Then_normal ?_ | refine W_skip ?_ | refine inBlk_normal ?_ | refine W_false rfl ?_))
            skip
            refine W_region rfl ?_
            refine WL_is (X_addW rfl rfl rfl (by exact wrap_i64_in (by omega) (by omega))) rfl rfl rfl ?_
            refine WL_is (X_move rfl rfl) rfl rfl rfl ?_
            (repeat (first | refine WL_nil ?_ | refine Then_normal ?_))
            refine ⟨⟨k + 1, g, h3⟩, ⟨(by repeat (first | exact SubE_nil | refine SubE_cons rfl ?_)), rfl, ?_, rfl⟩, by dsimp only; omega, by dsimp only; omega⟩
            dsimp only
            rw [hgs, ← hsm]
            exact SubR.refl _
          · rw [if_neg hz] at hgs
            refine WL_is (X_load_spot rfl rfl (by exact idx0) (by omega) rfl (by omega) rfl) rfl rfl rfl ?_
            rw [hge]
            refine WL_is (X_assign rfl rfl) rfl rfl rfl ?_
            refine WL_is (X_assign rfl rfl) rfl rfl rfl ?_
            (repeat (first | refine WL_nil ?_ | refine Then_normal ?_ | refine W_seq ?_))
            skip
            refine W_region rfl ?_
            refine WL_is (X_move rfl rfl) rfl rfl rfl ?_
            refine WL_is (X_neq_t rfl rfl rfl (by omega)) rfl rfl rfl ?_
            (repeat (first | refine WL_nil ?_ | refine Then_normal ?_ | refine W_seq ?_ | refine W_true rfl ?_))
            skip
            refine W_region rfl ?_
            refine WL_is (X_move rfl rfl) rfl rfl rfl ?_
            refine WL_is (X_move rfl rfl) rfl rfl rfl ?_
            refine WL_buildSl (enc := encI) [m[w + k]] (lenI _) rfl rfl rfl rfl rfl rfl rfl rfl rfl rfl rfl rfl rfl rfl rfl ?_
            intro u h4 hle4 hu
            refine WL_append (enc := encI) (i := 1) rfl rfl rfl elemI rfl rfl (Src.sl hu) (flatI _) (by simp only [List.length_cons, List.length_nil]; omega) (by simp only [List.length_cons, List.length_nil]; omega) rfl rfl rfl ?_
            intro g2
            simp only [List.set_cons_zero, List.set_cons_succ]
            rw [← hgs]
            refine WL_is (X_assign rfl rfl) rfl rfl rfl ?_
            (repeat (first | refine WL_nil ?_ | refine Then_normal ?_))
            skip
            refine W_region rfl ?_
            refine WL_is (X_move rfl rfl) rfl rfl rfl ?_
            refine WL_is (X_move rfl rfl) rfl rfl rfl ?_
            refine WL_is (X_move rfl rfl) rfl rfl rfl ?_
            refine WL_is (X_addW rfl rfl rfl (by exact wrap_i64_in (by omega) (by omega))) rfl rfl rfl ?_
            rw [hadd]
            refine WL_is (X_index_row rfl rfl (by exact idx0) rfl rfl rfl (by omega)) rfl rfl rfl ?_
            refine WL_store_spot rfl rfl rfl (by exact idx0) (by omega) rfl rfl rfl rfl rfl (by omega) rfl rfl rfl rfl ?_
            (repeat (first | refine WL_nil ?_ | refine Then_normal ?_ | refine inBlk_normal ?_))
            skip
            refine W_region rfl ?_
            refine WL_is (X_addW rfl rfl rfl (by exact wrap_i64_in (by omega) (by omega))) rfl rfl rfl ?_
            refine WL_is (X_move rfl rfl) rfl rfl rfl ?_
            (repeat (first | refine WL_nil ?_ | refine Then_normal ?_))
            refine ⟨⟨k + 1, g2, h4⟩, ⟨(by repeat (first | exact SubE_nil | refine SubE_cons rfl ?_)), rfl, ?_, rfl⟩, by dsimp only; omega, by dsimp only; omega⟩
            dsimp only
            rw [← hls]
            exact SubR.refl _
        · have hke : k = 32 - w := by omega
          subst hke
          have hgl := hfin g h3
          (repeat (first | refine W_seq ?_))
          refine W_region rfl ?_
          refine WL_is (X_lss_f rfl rfl rfl (by omega)) rfl rfl rfl ?_
          (repeat (first | refine WL_nil ?_ | refine Then_normal ?_ | refine W_seq ?_ | refine W_exit ?_ | refine Then_exit ?_ | refine inBlk_here ?_ | refine W_false rfl ?_))
          skip
          refine W_drawO 5 rfl rfl rfl rfl ?_
          refine RG_val rfl rfl (fun _ => rfl) (fun _ => X_move rfl rfl) ?_
          refine RG_val rfl rfl (fun _ => rfl) (fun _ => X_move rfl rfl) ?_
          refine RG_val rfl rfl (fun _ => rfl) (fun _ => X_loadA rfl rfl (by exact idx2) rfl rfl rfl) ?_
          refine RG_val rfl rfl (fun _ => rfl) (fun _ => X_assign rfl rfl) ?_
          refine RG_val rfl rfl (fun _ => rfl) (fun _ => X_assign rfl rfl) ?_
          refine RG_nil ?_
          refine ⟨RG_endv rfl (fun vs => by simp only [endE, List.cons_append, List.nil_append] <;> rfl) (fun vs => rfl) ?_, .inr (by repeat (first | exact trivial | exact rfl | refine ⟨?_, ?_⟩))⟩
          refine WL_store rfl rfl rfl (by exact idx2) rfl rfl rfl rfl rfl rfl rfl rfl rfl ?_
          refine WL_is (X_assign rfl rfl) rfl rfl rfl ?_
          (repeat (first | refine WL_nil ?_ | refine Then_normal ?_ | refine W_ret ?_))
          exact Body_vals (.cons (.tmp rfl) (.cons (.tmp rfl) (.cons (.cellA rfl idx2 rfl rfl rfl) (.cons (.tmp rfl) .nil)))) rfl hgl
end Go.Proofs.Ytoocbfpomamdeaa
