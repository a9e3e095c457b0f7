/- Engine: strings in order; slices with their room; a row made by append. It speaks of no program. -/
import Derived.Test.YthcolbdlalpcjaaEngS
namespace Go.Par
open Go PH
theorem bytesLess_lt : ∀ (x y : List UInt8), Op.bytesLess x y = decide (x < y)
  | [], [] => by simp [Op.bytesLess]
  | _ :: _, [] => by simp [Op.bytesLess]
  | [], _ :: _ => by simp [Op.bytesLess]
  | a :: x, b :: y => by
    rw [Op.bytesLess, bytesLess_lt x y]
    simp only [List.cons_lt_cons_iff]
    by_cases h1 : a < b <;> by_cases h2 : a = b <;> by_cases h3 : x < y <;> simp [h1, h2, h3]
/-- One text ahead of another. -/
def ltK (a b : ByteArray) : Bool := Op.bytesLess a.toList b.toList
theorem ltK_iff {a b : ByteArray} : ltK a b = true ↔ a.toList < b.toList := by unfold ltK; rw [bytesLess_lt]; simp
theorem ltK_irrefl (a : ByteArray) : ltK a a = false := by
  cases h : ltK a a with
  | false => rfl
  | true => exact absurd (ltK_iff.1 h) (List.lt_irrefl _)
theorem ltK_trans {a b c : ByteArray} (h : ltK a b = true) (k : ltK b c = true) : ltK a c = true := ltK_iff.2 (List.lt_trans (ltK_iff.1 h) (ltK_iff.1 k))
theorem toListB_inj {a b : ByteArray} (h : a.toList = b.toList) : a = b := by
  rw [ByteArray.toList_eq, ByteArray.toList_eq] at h
  exact ByteArray.ext (Array.toList_inj.1 h)
theorem ltK_eq {a b : ByteArray} (h : ltK a b = false) (k : ltK b a = false) : a = b := by
  refine toListB_inj (List.le_antisymm ?_ ?_)
  · intro hh; rw [ltK_iff.2 hh] at k; cases k
  · intro hh; rw [ltK_iff.2 hh] at h; cases h
theorem ltK_asymm {a b : ByteArray} (h : ltK a b = true) : ltK b a = false := by
  cases k : ltK b a with
  | false => rfl
  | true => have := ltK_trans h k; rw [ltK_irrefl] at this; cases this
theorem beqB_iff {a b : ByteArray} : (a == b) = decide (a = b) := by
  by_cases h : a = b
  · subst h; rw [beqB]; simp
  · rw [decide_eq_false h, beq_toListBytes]
    simp; intro hh; exact h (toListB_inj hh)
section
variable {P : Program} {n : Nat} {ops : Array Oper} {l : List Oper} {o : Oper} {E : Env} {D : List Deferred} {R : List SL} {h : PH} {K : S → Prop} {Q : Exit → S → Prop}
theorem X_ltS {t u : TypeId} {x y : Operand} {a b : ByteArray} {c : Bool} (ho : o.op = .binOp .lss t x y u) (hx : ev E x = some (.string a)) (hy : ev E y = some (.string b)) (hc : ltK a b = c) : Exec P n o ⟨E, D, R, h⟩ (Is (.bool c) R h) :=
  Exec_is fun ac w ha => by
    subst hc
    simp [execOp, ho, ha.ev hx, ha.ev hy, eqGuard, binOp, Op.stringOp, ltK]
theorem X_gtS {t u : TypeId} {x y : Operand} {a b : ByteArray} {c : Bool} (ho : o.op = .binOp .gtr t x y u) (hx : ev E x = some (.string a)) (hy : ev E y = some (.string b)) (hc : ltK b a = c) : Exec P n o ⟨E, D, R, h⟩ (Is (.bool c) R h) :=
  Exec_is fun ac w ha => by
    subst hc
    have e : (!(Op.bytesLess a.toList b.toList || a.toList == b.toList)) = ltK b a := by
      cases h1 : ltK b a with
      | true =>
        have h2 := ltK_asymm h1
        have h3 : (a.toList == b.toList) = false := by
          cases h4 : (a.toList == b.toList) with
          | false => rfl
          | true =>
            have e : a = b := toListB_inj (by simpa using h4)
            subst e; rw [ltK_irrefl] at h1; cases h1
        unfold ltK at h2
        rw [h2, h3]; rfl
      | false =>
        cases h2 : ltK a b with
        | true => unfold ltK at h2; rw [h2]; rfl
        | false =>
          have e := ltK_eq h2 h1
          subst e; simp
    simp [execOp, ho, ha.ev hx, ha.ev hy, eqGuard, binOp, Op.stringOp, ← e]
theorem X_cap {x : Operand} {t : TypeId} {e : TypeId} {a : Option Addr} {m cap : Nat} (ho : o.op = .call ⟨.builtin .cap, #[x], #[t]⟩) (ht : slOf P t = some e) (hx : ev E x = some (.slice a m cap)) : Exec P n o ⟨E, D, R, h⟩ (Is (.int .i64 cap) R h) :=
  Exec_is fun ac w ha => by simp [execOp, ho, resolve, invoke, builtin, Builtin.cap_, ha.ev hx, run_underlying w (slOf_under ht), goInt]
/-- The beginning of a slice, with no room behind it. -/
theorem X_slice3 {x y z : Operand} {t e : TypeId} {a : Option Addr} {len cap sz j : Nat} {k k2 : IntKind} (ho : o.op = .slice t x none (some y) (some z)) (ht : slOf P t = some e) (hs : szOf P e = some sz) (hx : ev E x = some (.slice a len cap)) (hy : ev E y = some (.int k (j : Int))) (hz : ev E z = some (.int k2 (j : Int)))
    (h1 : j ≤ cap) : Exec P n o ⟨E, D, R, h⟩ (Is (.slice (if j = 0 then a else a.map (·.add (0 * sz))) j j) R h) :=
  Exec_is fun ac w ha => by
    simp [execOp, ho, ha.ev hx, ha.ev hy, ha.ev hz, Instr.sliceAt, Instr.slice, Instr.sliceBounds, Instr.sliceBound, asIntOf, run_underlying w (slOf_under ht), run_sizeOf w hs, h1]
/-- A row of so many zeros, made by append. -/
theorem WL_appendMake {x y : Operand} {t ty e : TypeId} {sz by_ m : Nat} {d : Tmp} (ho : o.op = .call ⟨.builtin .append, #[x, y], #[t, ty]⟩) (hx : ev E x = some (.slice none 0 0)) (hy : ev E y = some (.int .i64 (m : Int))) (ht : ElemT P t e sz by_) (hty : P.underlying ty = some (.int .i64))
    (hm : 0 < m) (hsz : 0 < sz) (hb : m * by_ ≤ 140737488355328) (hm2 : m ≤ 9223372036854775807) (hd : o.dst = some d) (hg : gd ops E o = some true) (hn : Nat.blt d n = true)
    (k : ∀ b cap c, m ≤ cap → c.length = cap * sz → WL P n ops l ⟨(d, .slice (some ⟨b, 0, none⟩) m cap) :: E, D, blk b c e :: R, h⟩ K Q) : WL P n ops (o :: l) ⟨E, D, R, h⟩ K Q := by
  refine WL_any (A := fun v' R' h' => ∃ b cap c, m ≤ cap ∧ c.length = cap * sz ∧ v' = .slice (some ⟨b, 0, none⟩) m cap ∧ R' = blk b c e :: R ∧ h' = h) ?_ hd hg hn fun v' _ _ _ ⟨b, cap, c, h1, h2, e0, e1, e2⟩ => by subst e0; subst e1; subst e2; exact k b cap c h1 h2
  refine Exec_of_run fun κ h0 f a w hf ha hw => ?_
  obtain ⟨hsl, inf, zv, hinf, hz, hsz', hby, hzs⟩ := ht
  have hfit := growslice_fits (need := m) (old := 0) (bytes := by_) (by omega) hb
  let q : Question := .appendCap m 0 e
  let cap' := q.cut (w.tape w.drawn q)
  have hcap' : m ≤ cap' := by simp only [cap', q, Question.cut]; omega
  have ex := ha.ev hx
  have ey := ha.ev hy
  subst hsz'; subst hby
  have hwrap : IntKind.i64.wrap (m : Int) = (m : Int) := wrap_i64_in (by omega) (by omega)
  have h48 : ¬ (281474976710656 < Builtin.nextslicecap m 0 * inf.bytes) := by omega
  have h49 : ¬ ((281474976710656 : Int) < (m : Int) * (inf.bytes : Int)) := by
    have : ((m * inf.bytes : Nat) : Int) = (m : Int) * (inf.bytes : Int) := by simp
    omega
  have h63 : ¬ (9223372036854775807 < (m : Int)) := by omega
  have hm0 : ¬ m = 0 := by omega
  have hneg : ¬ ((m : Int) < 0) := by omega
  have hs0 : ¬ inf.size = 0 := by omega
  obtain ⟨cc, hcc⟩ : ∃ cc : List Value, cc = (Builtin.zeroCells zv.cells m).toList ++ (Builtin.zeroCells zv.cells (cap' - m)).toList := ⟨_, rfl⟩
  have hlen : cc.length = cap' * inf.size := by
    rw [hcc]
    simp only [List.length_append, Array.length_toList, zeroCells_size, hzs, ← Nat.add_mul]
    congr 1; omega
  have hrun : (execOp a.eval o).run P w = .ok (.value (.slice (some ⟨w.heap.size, 0, none⟩) m cap')) { w with drawn := w.drawn + 1, heap := w.heap.push (.cells cc.toArray e (0, 0)) } := by
    rw [hcc]
    simp [execOp, ho, resolve, invoke, builtin, ex, ey, Builtin.append_, run_underlying w (slOf_under hsl), run_underlying w hty, sizeOf, typeInfo, zeroValue, hinf, hz, hwrap, h48, h49, h63, hm0, Question.forced, newRow, Builtin.firstCells, asInt, asIntOf, hneg]
    rw [if_neg (Nat.ne_of_gt (Nat.mul_pos hm hsz))]
    refine congrArg _ ?_
    unfold World.alloc World.drew
    have eAB : ∀ A B : Array Value, (A.toList ++ B.toList).toArray = A ++ B := fun A B => by apply Array.ext'; simp
    rw [eAB]
  exact ⟨_, _, h, _, .inl hrun, le.refl _, (hw.drawn _).new (.cells cc.toArray e (0, 0)), w.heap.size, cap', cc, hcap', hlen, rfl, rfl, rfl⟩
end
/-- A row's own beginning, of no elements. -/
theorem Upd_row0 {α : Type} {enc : α → List Value} {R : List SL} {h : PH} {b cap sz : Nat} {c : List Value} {e : TypeId} (i : Nat) (hi : R[i]? = some (blk b c e)) (hc : c.length = cap * sz) : Upd R h (R.set i (rowL enc (.slice (some ⟨b, 0, none⟩) 0 cap) e sz [])) h :=
  Upd.blkrow (cap := cap) (m := 0) (sz := sz) (xs := []) i hi (Nat.zero_le _) hc (by simp)
theorem Sl.room {α : Type} {enc : α → List Value} {sz : Nat} {h : PH} {a : Option Addr} {cap k : Nat} {L : List α} (hv : Sl enc sz h (.slice a L.length cap) L) (hk : k ≤ L.length) : Sl enc sz h (.slice (if k = 0 then a else a.map (·.add (0 * sz))) k k) (L.take k) := by
  obtain ⟨q1, a', cap', e, hc, hn, hx⟩ := hv
  cases e
  have hlen : (L.take k).length = k := by simp; omega
  refine ⟨fun x hx' => q1 x (List.mem_of_mem_take hx'), _, k, by rw [hlen], by rw [hlen]; exact Nat.le_refl _, ?_, ?_⟩
  · intro ha
    have : a = none := by
      split at ha
      · exact ha
      · simpa using ha
    obtain ⟨hL, _⟩ := hn this
    subst hL
    exact ⟨by simp, by simpa using hk⟩
  · rcases hx with hx | ⟨b, off, c, t, fr, ea, hb, hj⟩
    · left; subst hx; simp
    · by_cases hz : k = 0
      · left; subst hz; simp
      · right
        refine ⟨b, off, c, t, fr, by rw [if_neg hz, ea]; simp [add_spot], hb, ?_⟩
        intro i hi' j hjs
        rw [hlen] at hi'
        rw [hj i (by omega) j hjs]
        simp
end Go.Par
