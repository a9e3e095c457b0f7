/- Open files: what a table does. -/
import Derived.Test.YtmicilnmphkpmaaDescA
namespace Go.Proofs.Ytmicilnmphkpmaa
open Go Go.Par PH
def zeroF : FileD := ⟨false, 0, 0, false, 0, 0⟩
/-- A table. -/
def tabR (b : Nat) (s : DS) : SL := fun g => ∃ L : FL, L.map (·.2) = s.all ∧ stars [tblk b L s.fds, filesR L] g
theorem UpdE.tab {R : List SL} {h : PH} {b : Nat} {s : DS} (i : Nat) (hi : R[i]? = some (tabR b s)) : UpdE R h fun R' h' => h' = h ∧ ∃ L : FL, L.map (·.2) = s.all ∧ R' = tblk b L s.fds :: filesR L :: R.eraseIdx i :=
  UpdE.wkn fun g hg => by
    obtain ⟨a, c, e, hd, ⟨L, hL, a1, a2, e2, hd2, h1, a3, a4, e3, hd3, h2, h3⟩, hc⟩ := stars_perm (perm_front i hi) hg
    have h3 : a4 = none_ := h3
    subst h3; subst e3
    rw [un_none_right] at e2 hd2
    subst e2
    have hd' := dj_un_left.1 hd
    exact ⟨_, ⟨L, hL, rfl⟩, a1, un a3 c, by rw [e, un_assoc], dj_un_right.2 ⟨hd2, hd'.1⟩, h1, a3, c, rfl, hd'.2, h2, hc⟩
theorem Upd.tab {R : List SL} {h : PH} {b : Nat} {s : DS} {L : FL} (hL : L.map (·.2) = s.all) : Go.Par.Upd (tblk b L s.fds :: filesR L :: R) h (tabR b s :: R) h := Upd.wkn fun g hg => by
  obtain ⟨a, c, e, hd, ha, c1, c2, e2, hd2, h1, h2⟩ := hg
  subst e2
  have hd' := dj_un_right.1 hd
  exact ⟨un a c1, c2, by rw [e, un_assoc], dj_un_left.2 ⟨hd'.2, hd2⟩, ⟨L, hL, a, c1, rfl, hd'.1, ha, c1, none_, (un_none_right _).symm, dj_none_right _, h1, rfl⟩, h2⟩
theorem len_of {L : FL} {s : DS} (hL : L.map (·.2) = s.all) : L.length = s.all.length := by rw [← hL]; simp
theorem ok_le {L : FL} {s : DS} (hs : s.Ok) (hL : L.map (·.2) = s.all) : ∀ k ∈ s.fds, k ≤ L.length := by rw [len_of hL]; exact hs.le
theorem at_of {L : FL} {s : DS} (hL : L.map (·.2) = s.all) {j : Nat} (hj : j < L.length) : (s.all[j]?).getD zeroF = (L[j]).2 := by
  rw [← hL]; simp [hj]
theorem atF_mem {fds : List Nat} {fd : Int} (h0 : atF fds fd ≠ 0) : ∃ k : Nat, ∃ hk : k < fds.length, fd = k ∧ k < 8 ∧ atF fds fd = fds[k] := by
  unfold atF at *
  by_cases h : 0 ≤ fd ∧ fd < 8
  · rw [if_pos h] at h0 ⊢
    have hk : fd.toNat < fds.length := by
      rcases Nat.lt_or_ge fd.toNat fds.length with h1 | h1
      · exact h1
      · rw [List.getElem?_eq_none h1] at h0; simp at h0
    exact ⟨fd.toNat, hk, by omega, by omega, by simp [List.getElem?_eq_getElem hk]⟩
  · rw [if_neg h] at h0; exact absurd rfl h0
def DS.file (s : DS) (fd : Int) : FileD := if atF s.fds fd = 0 then zeroF else (s.all[atF s.fds fd - 1]?).getD zeroF
def DS.err (s : DS) (fd : Int) : Int := if atF s.fds fd = 0 then 609 else 0
def DS.open (s : DS) (f : FileD) : DS := if least s.fds < 8 then ⟨s.all ++ [f], s.fds.set (least s.fds) (s.all.length + 1)⟩ else s
def DS.move (s : DS) (fd off : Int) : DS := if atF s.fds fd = 0 ∨ off < 0 then s else ⟨s.all.set (atF s.fds fd - 1) { s.file fd with off := off }, s.fds⟩
def DS.moveE (s : DS) (fd off : Int) : Int := if atF s.fds fd = 0 then 609 else if off < 0 then 622 else 0
def DS.dup (s : DS) (fd : Int) : DS := if atF s.fds fd = 0 ∨ ¬ least s.fds < 8 then s else ⟨s.all, s.fds.set (least s.fds) (atF s.fds fd)⟩
def DS.dupN (s : DS) (fd : Int) : Int := if atF s.fds fd = 0 ∨ ¬ least s.fds < 8 then 0 else least s.fds
def DS.dupE (s : DS) (fd : Int) : Int := if atF s.fds fd = 0 then 609 else if least s.fds < 8 then 0 else 624
def DS.close (s : DS) (fd : Int) : DS := if atF s.fds fd = 0 then s else ⟨s.all, s.fds.set fd.toNat 0⟩
def DS.last (s : DS) (fd : Int) : Bool := if atF s.fds fd = 0 then false else !decide (atF s.fds fd ∈ s.fds.set fd.toNat 0)
def DS.openN (s : DS) : Int := if least s.fds < 8 then least s.fds else 0
def DS.openE (s : DS) : Int := if least s.fds < 8 then 0 else 624
theorem DS.Ok.open {s : DS} (hs : s.Ok) (f : FileD) : (s.open f).Ok := by
  unfold DS.open
  split
  · refine ⟨by simp [hs.len], fun k hk => ?_⟩
    simp only [List.length_append, List.length_cons, List.length_nil]
    rcases List.mem_or_eq_of_mem_set hk with h | h
    · have := hs.le k h; omega
    · omega
  · exact hs
theorem DS.Ok.move {s : DS} (hs : s.Ok) (fd off : Int) : (s.move fd off).Ok := by
  unfold DS.move
  split
  · exact hs
  · exact ⟨hs.len, by simpa using hs.le⟩
theorem DS.Ok.dup {s : DS} (hs : s.Ok) (fd : Int) : (s.dup fd).Ok := by
  unfold DS.dup
  split
  · exact hs
  · rename_i h
    obtain ⟨k, hk, _, _, e⟩ := atF_mem (fds := s.fds) (fd := fd) (by omega)
    refine ⟨by simp [hs.len], fun x hx => ?_⟩
    rcases List.mem_or_eq_of_mem_set hx with h | h
    · exact hs.le x h
    · rw [h, e]; exact hs.le _ (List.getElem_mem _)
theorem DS.Ok.close {s : DS} (hs : s.Ok) (fd : Int) : (s.close fd).Ok := by
  unfold DS.close
  split
  · exact hs
  · refine ⟨by simp [hs.len], fun x hx => ?_⟩
    rcases List.mem_or_eq_of_mem_set hx with h | h
    · exact hs.le x h
    · omega
attribute [local irreducible] W WL Does Exec Body Then inBlk RG WR row obj pblk
set_option maxHeartbeats 1000000 in
theorem get_fn (h : PH) (b : Nat) (s : DS) (fd : Int) (hs : s.Ok) : Does Try.prog 17 [.pointer (some ⟨b, 0, none⟩), .int .i64 fd] [tabR b s] h
    (Ret fun r R' _ => r = .tuple #[fileV (s.file fd), .int .i64 (s.err fd)] ∧ R' = [tabR b s]) := by
  refine Does_of_W Try.func17 rfl (n := 21) rfl rfl (by simp only [argE, Nat.reduceAdd] <;> rfl) ?_
  refine W_updE (UpdE.tab 0 rfl) ?_
  rintro _ h - ⟨rfl, L, hL, rfl⟩
  (repeat (first | refine W_seq ?_))
  skip
  refine W_region rfl ?_
  (refine WL_alloc rfl rfl rfl rfl rfl rfl ?_; intro b_)
  refine WL_is (X_assign rfl rfl) rfl rfl rfl ?_
  (repeat (first | refine WL_nil ?_ | refine Then_normal ?_ | refine W_seq ?_))
  skip
  refine W_region rfl ?_
  refine WL_is (X_move rfl rfl) rfl rfl rfl ?_
  refine WL_is (X_move rfl rfl) rfl rfl rfl ?_
  refine WL_callR [tblk b L s.fds] _ rfl rfl rfl Try.func24 rfl rfl rfl rfl (perm_front 1 rfl) (file_fn h b L s.fds fd hs.len (ok_le hs hL)) ?_
  rintro r R' h' hl ⟨rfl, rfl⟩
  simp only [List.cons_append, List.nil_append, List.eraseIdx_cons_zero]
  unfold DS.file DS.err
  by_cases h0 : atF s.fds fd = 0
  · simp only [if_pos h0]
    rw [h0]
    simp only [ptr]
    refine WL_is (X_move rfl rfl) rfl rfl rfl ?_
    refine WL_is (X_extract rfl rfl rfl) rfl rfl rfl ?_
    refine WL_is (X_extract rfl rfl rfl) rfl rfl rfl ?_
    refine WL_is (X_assign rfl rfl) rfl rfl rfl ?_
    refine WL_is (X_assign rfl rfl) rfl rfl rfl ?_
    (repeat (first | refine WL_nil ?_ | refine Then_normal ?_ | refine W_seq ?_))
    skip
    refine W_region rfl ?_
    refine WL_is (X_move rfl rfl) rfl rfl rfl ?_
    refine WL_is (X_neq_t rfl rfl rfl (by omega)) rfl rfl rfl ?_
    (repeat (first | refine WL_nil ?_ | refine Then_normal ?_ | refine W_seq ?_ | refine W_true rfl ?_))
    skip
    refine W_region rfl ?_
    refine WL_is (X_build rfl rfl rfl) rfl rfl rfl ?_
    refine WL_is (X_move rfl rfl) rfl rfl rfl ?_
    refine WL_store rfl rfl rfl (by exact idx1) rfl rfl rfl rfl rfl rfl rfl rfl rfl ?_
    refine WL_is (X_assign rfl rfl) rfl rfl rfl ?_
    (repeat (first | refine WL_nil ?_ | refine Then_normal ?_ | refine W_ret ?_ | refine Then_ret ?_))
    refine Body_vals (.cons (.cellA rfl idx1 rfl rfl rfl) (.cons (.tmp rfl) .nil)) rfl ?_
    refine (UpdE.sub (A := fun R' _ => R' = [tblk b L s.fds, filesR L]) (SubR.cons _ (SubR.skip _ (SubR.refl _))) rfl).then ?_
    rintro _ h'' - rfl
    exact UpdE.of (Upd.tab hL) ⟨rfl, rfl⟩
  · simp only [if_neg h0]
    obtain ⟨k, hk, e1, hk8, e2⟩ := atF_mem h0
    obtain ⟨j, hj, e, hp⟩ := ptr_pos (L := L) (k := atF s.fds fd) (by omega) (by rw [e2]; exact ok_le hs hL _ (List.getElem_mem _))
    rw [hp, e]
    have hf := at_of hL hj
    simp only [Nat.add_sub_cancel]
    rw [hf]
    refine WL_upd (Upd.take 2 j rfl hj) ?_
    simp only [fblk, encF, List.eraseIdx_cons_succ, List.eraseIdx_cons_zero]
    refine WL_is (X_move rfl rfl) rfl rfl rfl ?_
    refine WL_is (X_extract rfl rfl rfl) rfl rfl rfl ?_
    refine WL_is (X_extract rfl rfl rfl) rfl rfl rfl ?_
    refine WL_is (X_assign rfl rfl) rfl rfl rfl ?_
    refine WL_is (X_assign rfl rfl) rfl rfl rfl ?_
    (repeat (first | refine WL_nil ?_ | refine Then_normal ?_ | refine W_seq ?_))
    skip
    refine W_region rfl ?_
    refine WL_is (X_move rfl rfl) rfl rfl rfl ?_
    refine WL_is (X_neq_f rfl rfl rfl (by omega)) rfl rfl rfl ?_
    (repeat (first | refine WL_nil ?_ | refine Then_normal ?_ | refine W_seq ?_ | refine W_skip ?_ | refine W_false rfl ?_))
    skip
    refine W_region rfl ?_
    refine WL_is (X_move rfl rfl) rfl rfl rfl ?_
    refine WL_is (X_nilCheck rfl rfl) rfl rfl rfl ?_
    refine WL_is (X_loadA rfl rfl (by exact idx0) rfl rfl rfl) rfl rfl rfl ?_
    refine WL_store rfl rfl rfl (by exact idx3) rfl rfl rfl rfl rfl rfl rfl rfl rfl ?_
    refine WL_is (X_assign rfl rfl) rfl rfl rfl ?_
    (repeat (first | refine WL_nil ?_ | refine Then_normal ?_ | refine W_ret ?_))
    refine Body_vals (.cons (.cellA rfl idx3 rfl rfl rfl) (.cons (.tmp rfl) .nil)) rfl ?_
    refine (UpdE.of (A := fun R' _ => R' = _) (Upd.put (f := (L[j]).2) j hj rfl) rfl).then ?_
    rintro _ h'' - rfl
    rw [show L.set j ((L[j]).1, (L[j]).2) = L from List.set_getElem_self hj]
    refine (UpdE.sub (A := fun R' _ => R' = [tblk b L s.fds, filesR L]) ((SubR.of_perm (.swap _ _ _)).trans (SubR.cons _ (SubR.cons _ (SubR.none _)))) rfl).then ?_
    rintro _ h'' - rfl
    exact UpdE.of (Upd.tab hL) ⟨rfl, rfl⟩
end Go.Proofs.Ytmicilnmphkpmaa
