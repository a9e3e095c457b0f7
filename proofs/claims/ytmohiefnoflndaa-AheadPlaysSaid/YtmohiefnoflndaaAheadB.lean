/- Words ahead: rows sorted by places. -/
import Derived.Test.YtmohiefnoflndaaAheadA
import Derived.Test.YtmohiefnoflndaaAheadS
import Derived.Shelf.SlSortCmp.NoneTotal
namespace Go.Proofs
set_option maxRecDepth 4000
open Go.Shelf Go.RowKit Go.Lib Go.Sort
set_option maxHeartbeats 1000000 in
/-- What the sort is told of two: which place is the lesser. -/
theorem Try.closure23 (x y : Int × Int) (W : World) : Calls Try.prog 23 #[.agg #[.int .i64 x.1, .int .u64 x.2], .agg #[.int .i64 y.1, .int .u64 y.2]] W fun e w' => e = .returned (.int .i64 (Lib.compareInt x.1 y.1)) ∧ ∃ q os', w' = grow (W.drewN q) os' := by
  have hcon := fun W' => AnyG.cmp_Compare_int Try.cmpR x.1 y.1 W'
  change ∀ W', Calls Try.prog 24 _ _ _ at hcon
  generalize Lib.compareInt x.1 y.1 = r at hcon ⊢
  go_enter Try.func23, Try.ntmps23
  go_wp2_with (go_at_call 24; refine (hcon _).mono ?_; rintro e w' ⟨rfl, rfl⟩)
  go_ret
  exact ⟨rfl, 0, _, by rw [alloc_eq_grow, alloc_eq_grow, grow_grow]; rfl⟩
end Go.Proofs
namespace Go.Proofs.Ytmohiefnoflndaa
open Go Go.Par PH
def ltR (x y : Int × Int) : Bool := decide (x.1 < y.1)
theorem ltR_eq (x y : Int × Int) : Go.Proofs.ltOf (fun x y : Int × Int => Lib.compareInt x.1 y.1) x y = decide (x.1 < y.1) := by
  unfold Go.Proofs.ltOf Lib.compareInt
  by_cases h1 : x.1 < y.1
  · simp [h1]
  · by_cases h2 : y.1 < x.1 <;> simp [h1, h2]
theorem swoR : Go.Sort.SWO (Go.Proofs.ltOf fun x y : Int × Int => Lib.compareInt x.1 y.1) where
  irrefl x := by rw [ltR_eq]; simp
  trans x y z h1 h2 := by rw [ltR_eq] at *; simp at *; omega
  ntrans x y z h1 h2 := by rw [ltR_eq] at *; simp at *; omega
theorem flatK_list (d : Array (Int × Int)) : (Go.Sort.flatK encR 2 d).toList = d.toList.flatMap encR := by
  apply List.ext_getElem?
  intro t
  rcases Nat.lt_or_ge t (d.size * 2) with h | h
  · have h1 := Go.Sort.get_flatK encR 2 d t h
    have hs : (Go.Sort.flatK encR 2 d).size = d.size * 2 := Go.Sort.size_flatK ..
    have ht : t / 2 < d.size := by omega
    have h2 := flat_get' (enc := encR) d.toList (lenR _) (t / 2) (by simpa using ht) (t % 2) (by omega)
    rw [show t / 2 * 2 + t % 2 = t from by omega] at h2
    rw [h2, Array.getElem?_toList, Array.getElem?_eq_getElem (by omega)]
    rw [getElem!_pos _ t (by omega)] at h1
    rw [h1, getElem!_pos d (t / 2) ht]
    have hl : t % 2 < (encR d[t / 2]).length := by rw [lenR d.toList _ (by simp)]; omega
    rw [getElem!_pos (encR d[t / 2]) (t % 2) hl, ← List.getElem?_eq_getElem hl]
    rfl
  · rw [List.getElem?_eq_none, List.getElem?_eq_none]
    · rw [flat_len _ (lenR _)]; simpa using h
    · rw [Array.length_toList, Go.Sort.size_flatK]; exact h
def sortedW (L : List (Int × Int)) : Prop := L.Pairwise fun a b => a.1 ≤ b.1
set_option maxHeartbeats 1000000 in
theorem sort_fn (h : PH) (v : Value) (L : List (Int × Int)) (hl : L.length ≤ 4000000000000000000) : Does Try.prog 22 [v, .func (.func 23) #[] #[]] [rowL encR v 38 2 L] h (Ret fun _ R' h' => ∃ L', L'.Perm L ∧ sortedW L' ∧ R' = [rowL encR v 38 2 L'] ∧ h' = h) := by
  intro f' w hf hs
  have hs0 := hs
  obtain ⟨_, g, k, _, hr, _⟩ := hs
  have hrow : rowL encR v 38 2 L g := by simpa [stars_one] using hr
  obtain ⟨hxl, ⟨hv, hm, _⟩ | ⟨b, cap, c, hv, hm, hc, ht, _⟩⟩ := hrow
  · subst hv
    have hL : L = [] := List.eq_nil_of_length_eq_zero hm
    subst hL
    refine (Go.Proofs.AnyF.slices_SortFunc_none Go.Proofs.Try.sortR none 0 (.func (.func 23) #[] #[]) w).mono ?_
    rintro e w' ⟨rfl, rfl⟩
    exact ⟨by simp, _, h, le.refl _, hs0, [], .refl _, .nil, rfl, rfl⟩
  · subst hv
    obtain ⟨c, hm, hc, ht, _, hs1⟩ := hs0.rowblk (i := 0) rfl
    simp only [List.set_cons_zero] at hs1
    have hb : w.heap[b]? = some (.cells c.toArray 38 (0, 0)) := hs1.obj_at (i := 0) rfl
    have hlt : b < w.heap.size := (Array.getElem?_eq_some_iff.1 hb).1
    have hfl : (Go.Sort.flatK encR 2 L.toArray).toList = L.flatMap encR := flatK_list L.toArray
    have hfs : (Go.Sort.flatK encR 2 L.toArray).size = L.length * 2 := Go.Sort.size_flatK ..
    have hH : Go.Sort.HoldsK encR 2 w b 0 L.toArray := fun j hj => by
      rw [hfs] at hj
      have h1 : c[j]? = (L.flatMap encR)[j]? := by rw [← ht, List.getElem?_take, if_pos hj]
      have h2 : (L.flatMap encR)[j]? = some ((Go.Sort.flatK encR 2 L.toArray)[j]!) := by
        rw [← hfl, Array.getElem?_toList, Array.getElem?_eq_getElem (by omega), getElem!_pos _ j (by omega)]
      refine ⟨?_, ?_⟩
      · simp only [World.cell?, hb, Nat.zero_add]
        simpa using h1.trans h2
      · simp [World.frozen?, hb]
    have eg : ∀ args w, (callFunc 23 args).run Try.prog w = .ok (.enter 23 args) w := Go.Proofs.enters_of Try.func23 (by kernel_rfl) rfl
    refine (Go.Proofs.AnyQ.slices_SortFunc Go.Proofs.Try.sortR 2 Go.Proofs.Try.isAgg38 Go.Proofs.Try.sizeOf38 encR (fun _ => rfl) (fun x v hv => by simp [encR] at hv; rcases hv with rfl | rfl <;> rfl) (fun x y => Lib.compareInt x.1 y.1) swoR 23 #[] b 0 cap L.toArray w eg (fun _ _ _ _ x y => Go.Proofs.Try.closure23 x y _) hH hlt (by simp; omega)).mono ?_
    rintro e w' ⟨rfl, d', n, os, hp, hso, rfl⟩
    obtain ⟨hds, _, hperm⟩ := hp
    simp only [List.size_toArray] at hds
    have hpl : d'.toList.Perm L := by
      have e1 : d'.extract 0 L.length = d' := by rw [← hds]; simp
      simp only [List.size_toArray] at hperm
      rw [e1] at hperm
      simpa using hperm
    have hfl' : (Go.Sort.flatK encR 2 d').toList = d'.toList.flatMap encR := flatK_list d'
    have hfs' : (Go.Sort.flatK encR 2 d').size = d'.size * 2 := Go.Sort.size_flatK ..
    refine ⟨by simp, [rowL encR (.slice (some ⟨b, 0, none⟩) L.length cap) 38 2 d'.toList], h, le.refl _, ?_, d'.toList, hpl, ?_, rfl, rfl⟩
    · obtain ⟨c', hc'⟩ : ∃ c' : List Value, c' = (Go.Sort.putCells id 0 (Go.Sort.flatK encR 2 d') c.toArray).toList := ⟨_, rfl⟩
      have hcl : c'.length = cap * 2 := by rw [hc']; simp [Go.Sort.putCells, hc]
      have hct : c'.take (L.length * 2) = d'.toList.flatMap encR := by
        apply List.ext_getElem?
        intro t
        rcases Nat.lt_or_ge t (L.length * 2) with h1 | h1
        · rw [List.getElem?_take, if_pos h1, hc', ← hfl']
          have h2 : t < c.length := by omega
          simp only [Go.Sort.putCells, Array.getElem?_toList, Array.getElem?_mapIdx]
          rw [List.getElem?_toArray, List.getElem?_eq_getElem h2]
          simp only [Option.map_some, Nat.zero_le, true_and, Nat.zero_add, Nat.sub_zero, id_eq]
          rw [if_pos (by omega), getElem!_pos _ t (by omega), Array.getElem?_eq_getElem (by omega)]
        · rw [List.getElem?_take, if_neg (by omega), List.getElem?_eq_none]
          rw [flat_len _ (lenR _), Array.length_toList]; omega
      have hst : St w h f' [blk b c' 38] h (Go.Proofs.sortWorldK encR 2 w b 0 n d' os) := by
        have h1 : St w h f' [blk b c' 38] h (Go.Sort.mapBlock w b (Go.Sort.putCells id 0 (Go.Sort.flatK encR 2 d'))) := by
          refine hs1.turn (i := 0) rfl (by simp [Go.Sort.mapBlock]) rfl rfl rfl ?_ ?_
          · simp only [Go.Sort.mapBlock, Array.getElem?_modify, hb]
            simp [Go.Sort.onCells, hc']
          · intro b' hne
            simp only [Go.Sort.mapBlock, Array.getElem?_modify]
            rw [if_neg (fun h => hne h.symm)]
        refine h1.same rfl rfl rfl ?_ ?_
        · simp [Go.Proofs.sortWorldK, Go.Sort.grow, Go.Sort.putRowK, Go.Sort.putRow, Go.Sort.mapBlock, Go.Sort.ahead]
        · intro b' o ho
          have hb' : b' < (Go.Sort.mapBlock w b (Go.Sort.putCells id 0 (Go.Sort.flatK encR 2 d'))).heap.size := (Array.getElem?_eq_some_iff.1 ho).1
          change ((Go.Sort.mapBlock w b (Go.Sort.putCells id 0 (Go.Sort.flatK encR 2 d'))).heap ++ os)[b']? = some o
          rw [Array.getElem?_append_left hb']
          exact ho
      have hu := Upd.blkrow (R := [blk b c' 38]) (h := h) (b := b) (e := 38) (c := c') (sz := 2) (cap := cap) (m := L.length) (xs := d'.toList.flatMap encR) 0 rfl hm hcl hct _ _ _ _ hf hst
      have hml : d'.toList.length = L.length := by rw [Array.length_toList, hds]
      unfold rowL
      rw [hml]
      exact hu
    · unfold sortedW
      rw [List.pairwise_iff_getElem]
      intro i j hi hj hij
      have := hso i j (Nat.zero_le _) hij (by simp only [List.size_toArray]; rw [← hds]; simpa using hj)
      rw [ltR_eq, decide_eq_false_iff_not] at this
      simp only [Array.length_toList] at hi hj
      rw [getElem!_pos d' j hj, getElem!_pos d' i hi] at this
      simp only [Array.getElem_toList]
      omega
end Go.Proofs.Ytmohiefnoflndaa
