/- Words ahead: scripts opened; what is more than a statement plays. -/
import Derived.Test.YtmohiefnoflndaaAheadF
import Derived.Test.YtmohiefnoflndaaOpenS
namespace Go.Proofs.Ytmohiefnoflndaa
set_option maxRecDepth 4000
open Go Go.Par PH Go.ChangeShapes Go.WideShapes Go.ChangeAt Go.RowKit
structure Stq where
  d : Int
  v : Value
  l : List (Int × Int)
  a : Int
  w : Int
def encQ (s : Stq) : List Value := [.int .i64 s.d, s.v, .int .i64 s.a, .int .u64 s.w]
def in64 (n : Int) : Prop := -9223372036854775808 ≤ n ∧ n ≤ 9223372036854775807
structure Stq.Ok (h : PH) (s : Stq) : Prop where
  sl : Sl encR 2 h s.v s.l
  len : s.l.length ≤ 8796093022207
  all : ∀ x ∈ s.l, in64 x.1
  a : in64 s.a
theorem Stq.Ok.mono {h h' : PH} {s : Stq} (k : s.Ok h) (hl : le h h') : s.Ok h' := ⟨k.sl.mono hl, k.len, k.all, k.a⟩
theorem opnRw : OpnS Try.prog 28 fun h cs (p : Value × List (Int × Int)) => cs = [p.1] ∧ Sl encR 2 h p.1 p.2 ∧ (∀ a ∈ p.2, (-9223372036854775808 ≤ a.1 ∧ a.1 ≤ 9223372036854775807)) ∧ p.2.length * Try.prog.bytesOf 38 ≤ reachBytes := OpnS_slice (P := Try.prog) (sz := 2) rfl rfl (by decide) (ok := fun _ (a : Int × Int) => (-9223372036854775808 ≤ a.1 ∧ a.1 ≤ 9223372036854775807)) opnR.s
theorem bytes16 : Try.prog.bytesOf 38 = 16 := by kernel_rfl
theorem opnQ : OpnS Try.prog 33 fun h cs (a : Stq) => cs = encQ a ∧ a.Ok h := by
  intro H enc W sp held fuel cs x h hw
  obtain ⟨hl, hf⟩ := trod_fieldsS (fs := _) rfl h hw
  have hl : cs.length = 4 := hl
  match cs, hl with
  | [c0, c1, c2, c3], _ =>
    obtain ⟨_, _, f0, _⟩ := hf _ (.head _)
    obtain ⟨_, _, f1, w1⟩ := hf _ (.tail _ (.head _))
    obtain ⟨_, _, f2, _⟩ := hf _ (.tail _ (.tail _ (.head _)))
    obtain ⟨_, _, f3, _⟩ := hf _ (.tail _ (.tail _ (.tail _ (.head _))))
    obtain ⟨d, e0, _⟩ := Opn_int (k := .i64) rfl f0
    obtain ⟨⟨v, l⟩, e1, hs, hok, hwt⟩ := opnRw f1 w1
    obtain ⟨a, e2, ha⟩ := Opn_int (k := .i64) rfl f2
    obtain ⟨b, e3, _⟩ := Opn_int (k := .u64) rfl f3
    have e0 : [c0] = [.int .i64 d] := e0
    have e1 : [c1] = [v] := e1
    have e2 : [c2] = [.int .i64 a] := e2
    have e3 : [c3] = [.int .u64 b] := e3
    cases e0; cases e1; cases e2; cases e3
    rw [bytes16] at hwt
    have hwt : l.length * 16 ≤ 140737488351232 := hwt
    exact ⟨⟨d, v, l, a, b⟩, rfl, hs, by dsimp only; omega, hok, ha⟩
theorem open_stq {H : Type} {enc : TypeId × Value → H} {W : World} {r : Reach} {base : Nat} {sp : Nat → Bool} {held : Bool} {v : Value} {d : DataW H} {ps : List MemPlace} (hval : Value.okWide Try.prog W r base 22 v)
    (hd : DataW.Trod enc Try.prog W 0 sp held 22 v d ps) (hw : ∀ k ∈ DataW.weights Try.prog 22 d, k ≤ reachBytes) : ∃ l, Sl encQ 4 (hp W) v l ∧ ∀ s ∈ l, s.Ok (hp W) := by
  obtain ⟨fuel, hd⟩ := hd
  obtain ⟨⟨u, l⟩, e, hs, hok, _⟩ := OpnS_slice (P := Try.prog) (sz := 4) (t := 22) (e := 33) rfl rfl (by decide) (ok := fun h (a : Stq) => a.Ok h) opnQ hd hw
  obtain ⟨a, m, cap, rfl⟩ := okWide_slice (e := 33) rfl hval
  have e : [Value.slice a m cap] = [u] := e
  cases e
  exact ⟨l, hs, hok⟩
def sumL (l : List Stq) : Nat := (l.map (·.l.length)).sum
theorem sumL_succ {l : List Stq} {i : Nat} (hi : i < l.length) : sumL (l.take (i + 1)) = sumL (l.take i) + l[i].l.length := by
  unfold sumL
  rw [List.take_add_one, List.getElem?_eq_getElem hi, Option.toList_some, List.map_append, List.sum_append]; simp
theorem sumL_le {l : List Stq} {h : PH} (hok : ∀ s ∈ l, s.Ok h) : ∀ i, i ≤ l.length → sumL (l.take i) ≤ i * 8796093022207
  | 0, _ => by simp [sumL]
  | i + 1, hi => by
    rw [sumL_succ (by omega)]
    have := sumL_le hok i (by omega)
    have := (hok l[i] (List.getElem_mem _)).len
    omega
theorem le_sumL {l : List Stq} {s : Stq} (hs : s ∈ l) : s.l.length ≤ sumL l := by
  unfold sumL
  induction l with
  | nil => cases hs
  | cons x l ih =>
    rw [List.map_cons, List.sum_cons]
    rcases List.mem_cons.1 hs with h | h
    · subst h; omega
    · have := ih h; omega
def heavyL (l : List Stq) : Bool := decide (150 < l.length) || decide (2000 < sumL (l.take 200))
theorem light {l : List Stq} (h : heavyL l = false) : l.length ≤ 150 ∧ ∀ s ∈ l, s.l.length ≤ 2000 := by
  simp only [heavyL, Bool.or_eq_false_iff, decide_eq_false_iff_not] at h
  have h1 : l.length ≤ 150 := by omega
  rw [List.take_of_length_le (by omega)] at h
  exact ⟨h1, fun s hs => by have := le_sumL hs; omega⟩
attribute [local irreducible] W WL Does Exec Body Then inBlk RG WR row obj pblk
set_option maxHeartbeats 2000000 in
theorem heavy_fn (h : PH) (v : Value) (l : List Stq) (hv : Sl encQ 4 h v l) (hok : ∀ s ∈ l, s.Ok h) : Does Try.prog 7 [v] [] h (Ret fun r _ _ => r = .bool (heavyL l)) := by
  refine Does_of_W Try.func7 rfl (n := 30) rfl rfl (by simp only [argE] <;> rfl) ?_
  (repeat (first | refine W_seq ?_))
  skip
  refine W_region rfl ?_
  refine WL_is (X_assign rfl rfl) rfl rfl rfl ?_
  (repeat (first | refine WL_nil ?_ | refine Then_normal ?_ | refine W_seq ?_))
  skip
  refine W_region rfl ?_
  refine WL_is (X_assign rfl rfl) rfl rfl rfl ?_
  (repeat (first | refine WL_nil ?_ | refine Then_normal ?_ | refine W_seq ?_))
  skip
  refine W_region rfl ?_
  refine WL_is (X_assign rfl rfl) rfl rfl rfl ?_
  (repeat (first | refine WL_nil ?_ | refine Then_normal ?_ | refine W_block ?_))
  refine W_loop (X := Nat) (L := fun i => ⟨[(4, .int .i64 (i : Int)), (3, .int .i64 (sumL (l.take i) : Nat)), (0, v)], [], [], h⟩) (p := fun i => i ≤ l.length ∧ i ≤ 200) (μ := fun i => l.length - i) 0 ⟨(by repeat (first | exact SubE_nil | refine SubE_cons rfl ?_)), rfl, SubR.refl _, rfl⟩ ⟨Nat.zero_le _, Nat.zero_le _⟩ ?_
  rintro i ⟨hi, hi2⟩
  have hsu := sumL_le hok i hi
  by_cases hil : i < l.length
  · by_cases h200 : i < 200
    · have hsl := (hok l[i] (List.getElem_mem _)).sl
      have hln := (hok l[i] (List.getElem_mem _)).len
      have hss := sumL_succ hil
      (repeat (first | refine W_seq ?_))
      refine W_region rfl ?_
      refine WL_is (X_move rfl rfl) rfl rfl rfl ?_
      refine WL_is (X_move rfl rfl) rfl rfl rfl ?_
      refine WL_is (X_len_sl rfl rfl rfl (by assumption)) rfl rfl rfl ?_
      refine WL_is (X_lss_t rfl rfl rfl (by omega)) rfl rfl rfl ?_
      refine WL_is (X_move rfl rfl) rfl rfl rfl ?_
      refine WL_is (X_move rfl rfl) rfl rfl rfl ?_
      refine WL_is (X_lss_t rfl rfl rfl (by omega)) rfl rfl rfl ?_
      refine WL_is (X_pick_t rfl rfl rfl) rfl rfl rfl ?_
      (repeat (first | refine WL_nil ?_ | refine Then_normal ?_ | refine W_seq ?_ | refine W_skip ?_ | refine W_block ?_ | refine W_true rfl ?_))
      skip
      refine W_region rfl ?_
      refine WL_is (X_move rfl rfl) rfl rfl rfl ?_
      refine WL_is (X_move rfl rfl) rfl rfl rfl ?_
      refine WL_is (X_move rfl rfl) rfl rfl rfl ?_
      (refine WL_index_slN rfl rfl rfl rfl rfl (by assumption) (by omega) rfl rfl rfl ?_; intro p_ hp_)
      (refine WL_fieldAddr_at rfl rfl (by assumption) rfl rfl rfl rfl ?_; intro p_ hp_)
      refine WL_is (X_load1_at rfl rfl (by assumption) rfl rfl) rfl rfl rfl ?_
      refine WL_is (X_len_sl rfl rfl rfl (by assumption)) rfl rfl rfl ?_
      refine WL_is (X_addW rfl rfl rfl (by exact wrap_i64_in (by omega) (by omega))) rfl rfl rfl ?_
      refine WL_is (X_assign rfl rfl) rfl rfl rfl ?_
      (repeat (first | refine WL_nil ?_ | refine Then_normal ?_ | refine inBlk_normal ?_))
      skip
      refine W_region rfl ?_
      refine WL_is (X_move rfl rfl) rfl rfl rfl ?_
      refine WL_is (X_addW rfl rfl rfl (by exact wrap_i64_in (by omega) (by omega))) rfl rfl rfl ?_
      refine WL_is (X_assign rfl rfl) rfl rfl rfl ?_
      (repeat (first | refine WL_nil ?_ | refine Then_normal ?_))
      refine ⟨i + 1, ⟨by simp only [hss, Int.natCast_add]; exact (by repeat (first | exact SubE_nil | refine SubE_cons rfl ?_)), rfl, SubR.refl _, rfl⟩, ⟨hil, h200⟩, by omega⟩
    · have e2 : i = 200 := by omega
      subst e2
      (repeat (first | refine W_seq ?_))
      refine W_region rfl ?_
      refine WL_is (X_move rfl rfl) rfl rfl rfl ?_
      refine WL_is (X_move rfl rfl) rfl rfl rfl ?_
      refine WL_is (X_len_sl rfl rfl rfl (by assumption)) rfl rfl rfl ?_
      refine WL_is (X_lss_t rfl rfl rfl (by omega)) rfl rfl rfl ?_
      refine WL_is (X_move rfl rfl) rfl rfl rfl ?_
      refine WL_is (X_move rfl rfl) rfl rfl rfl ?_
      refine WL_is (X_lss_f rfl rfl rfl (by omega)) rfl rfl rfl ?_
      refine WL_is (X_pick_t rfl rfl rfl) rfl rfl rfl ?_
      (repeat (first | refine WL_nil ?_ | refine Then_normal ?_ | refine W_seq ?_ | refine W_exit ?_ | refine Then_exit ?_ | refine inBlk_here ?_ | refine W_false rfl ?_))
      have h1 : heavyL l = true := by
        unfold heavyL; rw [decide_eq_true (by omega)]; rfl
      rw [h1]
      skip
      refine W_region rfl ?_
      refine WL_is (X_move rfl rfl) rfl rfl rfl ?_
      refine WL_is (X_len_sl rfl rfl rfl (by assumption)) rfl rfl rfl ?_
      refine WL_is (X_gtr_t rfl rfl rfl (by omega)) rfl rfl rfl ?_
      refine WL_is (X_move rfl rfl) rfl rfl rfl ?_
      refine WL_off rfl rfl rfl ?_
      refine WL_off rfl rfl rfl ?_
      refine WL_is (X_pick_t rfl rfl rfl) rfl rfl rfl ?_
      refine WL_is (X_assign rfl rfl) rfl rfl rfl ?_
      (repeat (first | refine WL_nil ?_ | refine Then_normal ?_ | refine W_ret ?_))
      refine Body_end rfl rfl rfl (SubR.none _) ?_
      rfl
  · have e1 : i = l.length := by omega
    subst e1
    rw [List.take_length] at hsu
    have e2 : sumL (l.take 200) = sumL l := by rw [List.take_of_length_le hi2]
    rw [List.take_length]
    (repeat (first | refine W_seq ?_))
    refine W_region rfl ?_
    refine WL_is (X_move rfl rfl) rfl rfl rfl ?_
    refine WL_is (X_move rfl rfl) rfl rfl rfl ?_
    refine WL_is (X_len_sl rfl rfl rfl (by assumption)) rfl rfl rfl ?_
    refine WL_is (X_lss_f rfl rfl rfl (by omega)) rfl rfl rfl ?_
    refine WL_is (X_move rfl rfl) rfl rfl rfl ?_
    refine WL_off rfl rfl rfl ?_
    refine WL_off rfl rfl rfl ?_
    refine WL_is (X_pick_f rfl rfl rfl) rfl rfl rfl ?_
    (repeat (first | refine WL_nil ?_ | refine Then_normal ?_ | refine W_seq ?_ | refine W_exit ?_ | refine Then_exit ?_ | refine inBlk_here ?_ | refine W_false rfl ?_))
    by_cases h1 : l.length > 150
    · have h1 : heavyL l = true := by
        unfold heavyL; rw [decide_eq_true (by omega)]; rfl
      rw [h1]
      skip
      refine W_region rfl ?_
      refine WL_is (X_move rfl rfl) rfl rfl rfl ?_
      refine WL_is (X_len_sl rfl rfl rfl (by assumption)) rfl rfl rfl ?_
      refine WL_is (X_gtr_t rfl rfl rfl (by omega)) rfl rfl rfl ?_
      refine WL_is (X_move rfl rfl) rfl rfl rfl ?_
      refine WL_off rfl rfl rfl ?_
      refine WL_off rfl rfl rfl ?_
      refine WL_is (X_pick_t rfl rfl rfl) rfl rfl rfl ?_
      refine WL_is (X_assign rfl rfl) rfl rfl rfl ?_
      (repeat (first | refine WL_nil ?_ | refine Then_normal ?_ | refine W_ret ?_))
      refine Body_end rfl rfl rfl (SubR.none _) ?_
      rfl
    · by_cases h2 : sumL l > 2000
      · have h1 : heavyL l = true := by
          unfold heavyL; rw [e2, decide_eq_true (p := 2000 < _) (by omega), Bool.or_true]
        rw [h1]
        skip
        refine W_region rfl ?_
        refine WL_is (X_move rfl rfl) rfl rfl rfl ?_
        refine WL_is (X_len_sl rfl rfl rfl (by assumption)) rfl rfl rfl ?_
        refine WL_is (X_gtr_f rfl rfl rfl (by omega)) rfl rfl rfl ?_
        refine WL_is (X_move rfl rfl) rfl rfl rfl ?_
        refine WL_is (X_move rfl rfl) rfl rfl rfl ?_
        refine WL_is (X_gtr_t rfl rfl rfl (by omega)) rfl rfl rfl ?_
        refine WL_is (X_pick_f rfl rfl rfl) rfl rfl rfl ?_
        refine WL_is (X_assign rfl rfl) rfl rfl rfl ?_
        (repeat (first | refine WL_nil ?_ | refine Then_normal ?_ | refine W_ret ?_))
        refine Body_end rfl rfl rfl (SubR.none _) ?_
        rfl
      · have h1 : heavyL l = false := by
          unfold heavyL; rw [e2, decide_eq_false (by omega), decide_eq_false (by omega)]; rfl
        rw [h1]
        skip
        refine W_region rfl ?_
        refine WL_is (X_move rfl rfl) rfl rfl rfl ?_
        refine WL_is (X_len_sl rfl rfl rfl (by assumption)) rfl rfl rfl ?_
        refine WL_is (X_gtr_f rfl rfl rfl (by omega)) rfl rfl rfl ?_
        refine WL_is (X_move rfl rfl) rfl rfl rfl ?_
        refine WL_is (X_move rfl rfl) rfl rfl rfl ?_
        refine WL_is (X_gtr_f rfl rfl rfl (by omega)) rfl rfl rfl ?_
        refine WL_is (X_pick_f rfl rfl rfl) rfl rfl rfl ?_
        refine WL_is (X_assign rfl rfl) rfl rfl rfl ?_
        (repeat (first | refine WL_nil ?_ | refine Then_normal ?_ | refine W_ret ?_))
        refine Body_end rfl rfl rfl (SubR.none _) ?_
        rfl
end Go.Proofs.Ytmohiefnoflndaa
