import Derived.Test.YtjpaoeeeiklfnaaProg
import Derived.Test.YtjpaoeeeiklfnaaWMore
import Derived.Shelf.Sort.Plain
import Derived.Shelf.Slices.CompactS
import Derived.Shelf.Slices.In.SortNone
import Derived.Sort.OwnSorted
import Derived.Lib.OwnBridge
/- slices.Sort and slices.Compact at strings, on a row of one's own. -/
namespace Go.Proofs.Ytjpaoeeeiklfnaa.StrSort
open Go.Shelf Go.Sort Go.Lib Go.RowKit Go.Proofs.YtjpaoeeeiklfnaaW.PrintWords Go.Proofs.YtjpaoeeeiklfnaaW.PrintLast Go.Proofs.YtjpaoeeeiklfnaaW.PrintMore
def strSort_lays_ren : Go.Shelf.Ren := ⟨fun | 190 => 31 | 125 => 56 | 258 => 55 | 128 => 76 | 129 => 77 | 302 => 67 | 303 => 68 | 304 => 69 | 305 => 70 | 306 => 71 | 307 => 72 | 308 => 73 | 309 => 74 | 310 => 75 | 333 => 82 | 329 => 83 | 330 => 84 | 334 => 85 | 335 => 86 | 336 => 87 | 344 => 89 | n => n, fun | 31 => 27 | 9 => 9 | 3 => 3 | 46 => 88 | 0 => 0 | 51 => 107 | 53 => 109 | 4 => 4 | 183 => 99 | 182 => 98 | 131 => 104 | 5 => 5 | 218 => 115 | 222 => 119 | 228 => 122 | 229 => 123 | n => n, fun n => n⟩
theorem strSort_lays : Lays.n190 Try.prog strSort_lays_ren where
  mixed := by kernel_rfl
  f125 := Try.func56.trans (congrArg some (by kernel_rfl))
  f128 := Try.func76.trans (congrArg some (by kernel_rfl))
  f129 := Try.func77.trans (congrArg some (by kernel_rfl))
  f190 := Try.func31.trans (congrArg some (by kernel_rfl))
  f258 := Try.func55.trans (congrArg some (by kernel_rfl))
  f302 := Try.func67.trans (congrArg some (by kernel_rfl))
  f303 := Try.func68.trans (congrArg some (by kernel_rfl))
  f304 := Try.func69.trans (congrArg some (by kernel_rfl))
  f305 := Try.func70.trans (congrArg some (by kernel_rfl))
  f306 := Try.func71.trans (congrArg some (by kernel_rfl))
  f307 := Try.func72.trans (congrArg some (by kernel_rfl))
  f308 := Try.func73.trans (congrArg some (by kernel_rfl))
  f309 := Try.func74.trans (congrArg some (by kernel_rfl))
  f310 := Try.func75.trans (congrArg some (by kernel_rfl))
  f329 := Try.func83.trans (congrArg some (by kernel_rfl))
  f330 := Try.func84.trans (congrArg some (by kernel_rfl))
  f333 := Try.func82.trans (congrArg some (by kernel_rfl))
  f334 := Try.func85.trans (congrArg some (by kernel_rfl))
  f335 := Try.func86.trans (congrArg some (by kernel_rfl))
  f336 := Try.func87.trans (congrArg some (by kernel_rfl))
  f344 := Try.func89.trans (congrArg some (by kernel_rfl))
  t0 := Try.underlying0
  a0 := Try.isAgg0
  z0 := Try.sizeOf0
  v0 := Try.zeroValue0
  t3 := Try.underlying3
  a3 := Try.isAgg3
  z3 := Try.sizeOf3
  v3 := Try.zeroValue3
  t4 := Try.underlying4
  a4 := Try.isAgg4
  z4 := Try.sizeOf4
  v4 := Try.zeroValue4
  t5 := Try.underlying5
  a5 := Try.isAgg5
  z5 := Try.sizeOf5
  v5 := Try.zeroValue5
  t9 := Try.underlying9
  a9 := Try.isAgg9
  z9 := Try.sizeOf9
  v9 := Try.zeroValue9
  t31 := Try.underlying27
  a31 := Try.isAgg27
  z31 := Try.sizeOf27
  v31 := Try.zeroValue27
  t46 := Try.underlying88
  a46 := Try.isAgg88
  z46 := Try.sizeOf88
  v46 := Try.zeroValue88
  t51 := Try.underlying107
  a51 := Try.isAgg107
  z51 := Try.sizeOf107
  v51 := Try.zeroValue107
  t53 := Try.underlying109
  a53 := Try.isAgg109
  z53 := Try.sizeOf109
  v53 := Try.zeroValue109
  t131 := Try.underlying104
  a131 := Try.isAgg104
  z131 := Try.sizeOf104
  v131 := Try.zeroValue104
  t182 := Try.underlying98
  a182 := Try.isAgg98
  z182 := Try.sizeOf98
  v182 := Try.zeroValue98
  t183 := Try.underlying99
  a183 := Try.isAgg99
  z183 := Try.sizeOf99
  v183 := Try.zeroValue99
  t218 := Try.underlying115
  a218 := Try.isAgg115
  z218 := Try.sizeOf115
  v218 := Try.zeroValue115
  t222 := Try.underlying119
  a222 := Try.isAgg119
  z222 := Try.sizeOf119
  v222 := Try.zeroValue119
  t228 := Try.underlying122
  a228 := Try.isAgg122
  z228 := Try.sizeOf122
  v228 := Try.zeroValue122
  t229 := Try.underlying123
  a229 := Try.isAgg123
  z229 := Try.sizeOf123
  v229 := Try.zeroValue123
def strCompact_lays_ren : Go.Shelf.Ren := ⟨fun | 194 => 32 | n => n, fun | 31 => 27 | 9 => 9 | 3 => 3 | 4 => 4 | 0 => 0 | n => n, fun n => n⟩
theorem strCompact_lays : Lays.n194 Try.prog strCompact_lays_ren where
  mixed := by kernel_rfl
  f194 := Try.func32.trans (congrArg some (by kernel_rfl))
  t0 := Try.underlying0
  a0 := Try.isAgg0
  z0 := Try.sizeOf0
  v0 := Try.zeroValue0
  t3 := Try.underlying3
  a3 := Try.isAgg3
  z3 := Try.sizeOf3
  v3 := Try.zeroValue3
  t4 := Try.underlying4
  a4 := Try.isAgg4
  z4 := Try.sizeOf4
  v4 := Try.zeroValue4
  t9 := Try.underlying9
  a9 := Try.isAgg9
  z9 := Try.sizeOf9
  v9 := Try.zeroValue9
  t31 := Try.underlying27
  a31 := Try.isAgg27
  z31 := Try.sizeOf27
  v31 := Try.zeroValue27
def by8 (s : ByteArray) : List UInt8 := s.data.toList
def of8 (l : List UInt8) : ByteArray := ⟨l.toArray⟩
theorem of8_by8 (s : ByteArray) : of8 (by8 s) = s := by cases s; simp [of8, by8]
theorem by8_of8 (l : List UInt8) : by8 (of8 l) = l := by simp [of8, by8]
theorem enc_of8 (l : List UInt8) : Value.string (of8 l) = encStr l := rfl
theorem enc_by8 (s : ByteArray) : encStr (by8 s) = Value.string s := by show Value.string (of8 (by8 s)) = _; rw [of8_by8]
theorem encs_by8 (xs : List ByteArray) : encs Value.string xs = (xs.map by8).map encStr := by
  rw [List.map_map]; unfold encs; exact List.map_congr_left fun s _ => (enc_by8 s).symm
theorem encs_of8 (l : List (List UInt8)) : encs Value.string (l.map of8) = l.map encStr := by
  unfold encs; rw [List.map_map]; rfl
/-- the strings, sorted -/
def srt (xs : List ByteArray) : List ByteArray := ((xs.map by8).mergeSort fun x y => decide (x ≤ y)).map of8
/-- runs of like strings, cut to one -/
def cmpct (xs : List ByteArray) : List ByteArray := (Lib.compact (xs.map by8)).map of8
theorem srt_length (xs : List ByteArray) : (srt xs).length = xs.length := by simp [srt]
theorem cmpct_length (xs : List ByteArray) : (cmpct xs).length ≤ xs.length := by
  have := Lib.compact_length_le (xs.map by8)
  simpa [cmpct] using this
theorem srt_by8 (xs : List ByteArray) : (srt xs).map by8 = (xs.map by8).mergeSort fun x y => decide (x ≤ y) := by
  unfold srt; rw [List.map_map]
  conv => rhs; rw [← List.map_id ((xs.map by8).mergeSort fun x y => decide (x ≤ y))]
  exact List.map_congr_left fun l _ => by8_of8 l
theorem sort_calls {base : Nat} {ok : Nat → Prop} {v : Value} {ys : List ByteArray} {W : World} (ho : Kd.R Kd.string 9 W base ok v ys) (hl : ys.length ≤ 1048576) :
    Calls Try.prog 31 #[v] W fun e w' => e = .returned (.tuple #[]) ∧ Kd.R Kd.string 9 w' base ok v (srt ys) ∧ W.grownBy w' v.ownBlock := by
  obtain ⟨A, c, hv⟩ := Kd.R_slice ho
  by_cases h : ys.length = 0
  · have hys : ys = [] := List.eq_nil_of_length_eq_zero h
    subst hys
    subst hv
    refine (Any.slices_Sort_string_none strSort_lays A c W).mono ?_
    rintro e w' ⟨rfl, rfl⟩
    exact ⟨rfl, (by rw [show srt [] = [] by simp [srt]]; exact ho), World.grownBy.refl _ _⟩
  · have own := Kd.own_of_R (h1 := fun _ => rfl) ho
    rw [encs_by8] at own
    rcases own.2 with ⟨_, h2⟩ | ⟨g, cap, cur, h1, hb, hh, hn, hc, hs, ht⟩
    · exact absurd h2 h
    · rw [h1] at own ho ⊢
      have hlen : (ys.map by8).length = ys.length := by simp
      have hH : Holds encStr W g 0 (ys.map by8).toArray := holds_of_block hh (by rw [hlen]; simpa using ht)
      have hg : g < W.heap.size := (Array.getElem?_eq_some_iff.1 hh).1
      have hcon := Any.slices_Sort_string strSort_lays g 0 cap (ys.map by8) W hH hg (by rw [hlen]; omega)
      rw [hlen] at hcon
      refine hcon.mono ?_
      rintro e w' ⟨rfl, n, os, rfl⟩
      refine ⟨rfl, ?_, ?_⟩
      · have h3 := ownsRow_sorted (n := n) (os := os) (ss := ys.map by8) (ts := (srt ys).map by8) (by simp [srt_length]) hb hh (by rw [hlen]; exact hn) hc hs
        rw [← encs_by8, hlen, srt_by8] at h3
        refine Kd.R_of_own (h1 := fun _ => rfl) ?_ ho.1
        rw [srt_length]
        exact h3
      · exact grownBy_sorted _
theorem compact_calls {base : Nat} {ok : Nat → Prop} {v : Value} {ys : List ByteArray} {W : World} (ho : Kd.R Kd.string 9 W base ok v ys) (hl : ys.length ≤ 1048576) :
    Calls Try.prog 32 #[v] W fun e w' => ∃ v', e = .returned v' ∧ Kd.R Kd.string 9 w' base ok v' (cmpct ys) ∧ v'.ownBlock = v.ownBlock ∧ W.grownBy w' v.ownBlock := by
  obtain ⟨A, c, hv⟩ := Kd.R_slice ho
  by_cases h : ys.length = 0
  · have hys : ys = [] := List.eq_nil_of_length_eq_zero h
    subst hys
    subst hv
    refine (Any.slices_Compact_string_empty strCompact_lays A c W).mono ?_
    rintro e w' ⟨rfl, rfl⟩
    exact ⟨_, rfl, (by rw [show cmpct [] = [] by simp [cmpct, Lib.compact, compactUpTo]]; exact ho), rfl, World.grownBy.refl _ _⟩
  · have own := Kd.own_of_R (h1 := fun _ => rfl) ho
    rw [encs_by8] at own
    rcases own.2 with ⟨_, h2⟩ | ⟨g, cap, cur, h1, hb, hh, hn, hc, hs, ht⟩
    · exact absurd h2 h
    · rw [h1] at own ho ⊢
      have hlen : (ys.map by8).length = ys.length := by simp
      have hH : Holds encStr W g 0 (ys.map by8).toArray := holds_of_block hh (by rw [hlen]; simpa using ht)
      have hcon := Any.slices_Compact_string strCompact_lays g 0 cap (ys.map by8) W hH (by rw [hlen]; omega) (by rw [hlen]; exact hn)
      rw [hlen] at hcon
      refine hcon.mono ?_
      rintro e w' ⟨rfl, q, rfl⟩
      have hle := Lib.compact_length_le (ys.map by8)
      rw [hlen] at hle
      refine ⟨_, rfl, ?_, rfl, ?_⟩
      · have h3 := Lib.ownsRow_putRow (q := q) (k := (Lib.compact (ys.map by8)).length) (ys := Lib.compact (ys.map by8) ++ List.replicate (ys.length - (Lib.compact (ys.map by8)).length) []) own (by simp; omega) hle
        rw [List.take_left] at h3
        refine Kd.R_of_own (h1 := fun _ => rfl) ?_ (fun k hk => ho.1 k hk)
        have e1 : (cmpct ys).length = (Lib.compact (ys.map by8)).length := by simp [cmpct]
        rw [e1]
        unfold cmpct
        rw [encs_of8]
        exact h3
      · refine ⟨rfl, rfl, rfl, by simp [putRow, mapBlock, Sort.ahead], fun k _ hk => ?_⟩
        have hne : g ≠ k := fun e => hk (by rw [← e]; rfl)
        simp [putRow, mapBlock, Sort.ahead, Array.getElem?_modify, hne]
/-! #### the order: what a row is, sorted and cut, is the row that is built place by place -/
theorem upTo_inv (d : Array (List UInt8)) (hs : ∀ i j, i ≤ j → j < d.size → d[i]! ≤ d[j]!) : ∀ m, m ≤ d.size → (∀ x, x ∈ compactUpTo d m → ∃ i, i < m ∧ d[i]! = x) ∧ (∀ i, i < m → d[i]! ∈ compactUpTo d m) ∧ (compactUpTo d m).Pairwise (· < ·) := by
  intro m
  induction m with
  | zero => intro _; exact ⟨fun x hx => by simp [compactUpTo] at hx, fun i hi => absurd hi (Nat.not_lt_zero i), by simp [compactUpTo]⟩
  | succ m ih =>
    intro hm
    obtain ⟨h1, h2, h3⟩ := ih (by omega)
    rw [compactUpTo_succ]
    by_cases hk : keeps d m = true
    · rw [if_pos hk]
      refine ⟨fun x hx => ?_, fun i hi => ?_, ?_⟩
      · rcases List.mem_append.1 hx with hx | hx
        · obtain ⟨i, hi, e⟩ := h1 x hx; exact ⟨i, by omega, e⟩
        · exact ⟨m, by omega, (List.mem_singleton.1 hx).symm⟩
      · by_cases e : i = m
        · subst e; exact List.mem_append_right _ (List.mem_singleton.2 rfl)
        · exact List.mem_append_left _ (h2 i (by omega))
      · refine List.pairwise_append.2 ⟨h3, List.pairwise_singleton _ _, fun x hx y hy => ?_⟩
        rw [List.mem_singleton.1 hy]
        obtain ⟨i, hi, e⟩ := h1 x hx
        subst e
        have hk' : m = 0 ∨ d[m]! ≠ d[m - 1]! := of_decide_eq_true hk
        have hne : d[m]! ≠ d[m - 1]! := by rcases hk' with h | h; · omega
                                           · exact h
        refine List.not_le.1 fun hle => hne ?_
        exact List.le_antisymm (List.le_trans hle (hs i (m - 1) (by omega) (by omega))) (hs (m - 1) m (by omega) (by omega))
    · rw [if_neg hk, List.append_nil]
      have hk' : ¬ (m = 0 ∨ d[m]! ≠ d[m - 1]!) := fun h => hk (decide_eq_true h)
      have h0 : m ≠ 0 := fun h => hk' (.inl h)
      have he : d[m]! = d[m - 1]! := Classical.byContradiction fun h => hk' (.inr h)
      refine ⟨fun x hx => ?_, fun i hi => ?_, h3⟩
      · obtain ⟨i, hi, e⟩ := h1 x hx; exact ⟨i, by omega, e⟩
      · by_cases e : i = m
        · subst e; rw [he]; exact h2 _ (by omega)
        · exact h2 i (by omega)
theorem compact_inv (l : List (List UInt8)) (hs : l.Pairwise (· ≤ ·)) : (∀ x, x ∈ Lib.compact l ↔ x ∈ l) ∧ (Lib.compact l).Pairwise (· < ·) := by
  have hs' : ∀ i j, i ≤ j → j < l.toArray.size → l.toArray[i]! ≤ l.toArray[j]! := by
    intro i j hij hj
    have hj' : j < l.length := by simpa using hj
    rw [getElem!_pos l.toArray i (by simp; omega), getElem!_pos l.toArray j (by simp; omega)]
    simp only [List.getElem_toArray]
    by_cases e : i = j
    · subst e; exact List.le_refl _
    · exact (List.pairwise_iff_getElem.1 hs) i j (by omega) hj' (by omega)
  obtain ⟨h1, h2, h3⟩ := upTo_inv l.toArray hs' l.length (by simp)
  refine ⟨fun x => ⟨fun hx => ?_, fun hx => ?_⟩, h3⟩
  · obtain ⟨i, hi, e⟩ := h1 x hx
    rw [← e, getElem!_pos l.toArray i (by simp; omega)]
    simp
  · obtain ⟨i, hi, e⟩ := List.getElem_of_mem hx
    have := h2 i hi
    rw [getElem!_pos l.toArray i (by simp; omega)] at this
    simp only [List.getElem_toArray, e] at this
    exact this
theorem ordered_unique : ∀ (l m : List (List UInt8)), l.Pairwise (· < ·) → m.Pairwise (· < ·) → (∀ x, x ∈ l ↔ x ∈ m) → l = m
  | [], [], _, _, _ => rfl
  | [], b :: m, _, _, h => absurd ((h b).2 (List.mem_cons_self ..)) (by simp)
  | a :: l, [], _, _, h => absurd ((h a).1 (List.mem_cons_self ..)) (by simp)
  | a :: l, b :: m, hl, hm, h => by
    obtain ⟨hl1, hl2⟩ := List.pairwise_cons.1 hl
    obtain ⟨hm1, hm2⟩ := List.pairwise_cons.1 hm
    have hab : a = b := by
      rcases List.mem_cons.1 ((h a).1 (List.mem_cons_self ..)) with e | e
      · exact e
      · rcases List.mem_cons.1 ((h b).2 (List.mem_cons_self ..)) with e' | e'
        · exact e'.symm
        · exact absurd (List.lt_trans (hm1 a e) (hl1 b e')) (List.lt_irrefl b)
    subst hab
    rw [ordered_unique l m hl2 hm2 fun x => ⟨fun hx => ?_, fun hx => ?_⟩]
    · rcases List.mem_cons.1 ((h x).1 (List.mem_cons_of_mem _ hx)) with e | e
      · subst e; exact absurd (hl1 x hx) (List.lt_irrefl x)
      · exact e
    · rcases List.mem_cons.1 ((h x).2 (List.mem_cons_of_mem _ hx)) with e | e
      · subst e; exact absurd (hm1 x hx) (List.lt_irrefl x)
      · exact e
/-- a string put into its place, once -/
def insU : List ByteArray → ByteArray → List ByteArray
  | [], s => [s]
  | x :: xs, s => if by8 x < by8 s then x :: insU xs s else if by8 x = by8 s then s :: xs else s :: x :: xs
theorem mem_insU (l : List ByteArray) (s x : ByteArray) : x ∈ insU l s ↔ x = s ∨ x ∈ l := by
  induction l with
  | nil => simp [insU]
  | cons a l ih =>
    unfold insU
    split
    · simp only [List.mem_cons, ih]
      constructor
      · rintro (h | h | h)
        · exact .inr (.inl h)
        · exact .inl h
        · exact .inr (.inr h)
      · rintro (h | h | h)
        · exact .inr (.inl h)
        · exact .inl h
        · exact .inr (.inr h)
    · split
      · rename_i h
        have e : a = s := by rw [← of8_by8 a, h, of8_by8]
        subst e
        simp
      · simp
theorem insU_ord (l : List ByteArray) (s : ByteArray) (h : (l.map by8).Pairwise (· < ·)) : ((insU l s).map by8).Pairwise (· < ·) := by
  induction l with
  | nil => simp [insU]
  | cons a l ih =>
    rw [List.map_cons] at h
    obtain ⟨h1, h2⟩ := List.pairwise_cons.1 h
    unfold insU
    split
    · rename_i hlt
      rw [List.map_cons]
      refine List.pairwise_cons.2 ⟨fun y hy => ?_, ih h2⟩
      obtain ⟨z, hz, rfl⟩ := List.mem_map.1 hy
      rcases (mem_insU l s z).1 hz with e | e
      · rw [e]; exact hlt
      · exact h1 _ (List.mem_map_of_mem e)
    · rename_i hge
      split
      · rename_i he
        rw [List.map_cons, ← he]
        exact List.pairwise_cons.2 ⟨h1, h2⟩
      · rename_i hne
        have hlt : by8 s < by8 a := List.not_le.1 fun hle => hne (List.le_antisymm hle (List.not_lt.1 hge))
        rw [List.map_cons, List.map_cons]
        refine List.pairwise_cons.2 ⟨fun y hy => ?_, h⟩
        rcases List.mem_cons.1 hy with e | e
        · rw [e]; exact hlt
        · exact List.lt_trans hlt (h1 y e)
theorem insU_length (l : List ByteArray) (s : ByteArray) : (insU l s).length ≤ l.length + 1 := by
  induction l with
  | nil => simp [insU]
  | cons a l ih =>
    unfold insU
    split
    · simp only [List.length_cons]; omega
    · split <;> simp only [List.length_cons] <;> omega
theorem fold_inv (xs : List ByteArray) : ∀ l : List ByteArray, (l.map by8).Pairwise (· < ·) → ((xs.foldl insU l).map by8).Pairwise (· < ·) ∧ ∀ x, x ∈ xs.foldl insU l ↔ x ∈ xs ∨ x ∈ l := by
  induction xs with
  | nil => intro l h; exact ⟨h, by simp⟩
  | cons a xs ih =>
    intro l h
    obtain ⟨h1, h2⟩ := ih (insU l a) (insU_ord l a h)
    refine ⟨h1, fun x => ?_⟩
    show x ∈ xs.foldl insU (insU l a) ↔ _
    rw [h2, mem_insU, List.mem_cons]
    constructor
    · rintro (h | h | h)
      · exact .inl (.inr h)
      · exact .inl (.inl h)
      · exact .inr h
    · rintro ((h | h) | h)
      · exact .inr (.inl h)
      · exact .inl h
      · exact .inr (.inr h)
theorem mem_by8 (x : ByteArray) (l : List ByteArray) : by8 x ∈ l.map by8 ↔ x ∈ l := by
  constructor
  · intro h
    obtain ⟨y, hy, e⟩ := List.mem_map.1 h
    have : y = x := by rw [← of8_by8 y, e, of8_by8]
    exact this ▸ hy
  · exact fun h => List.mem_map_of_mem h
theorem by8_inj {l m : List ByteArray} (h : l.map by8 = m.map by8) : l = m := by
  have h2 := congrArg (List.map of8) h
  rw [List.map_map, List.map_map] at h2
  have e : ∀ l : List ByteArray, l.map (of8 ∘ by8) = l := fun l => by
    conv => rhs; rw [← List.map_id l]
    exact List.map_congr_left fun s _ => of8_by8 s
  rwa [e, e] at h2
/-- THE LAW: sorted, each once. -/
theorem cmpct_srt (xs : List ByteArray) : cmpct (srt xs) = xs.foldl insU [] := by
  have hsort : ((xs.map by8).mergeSort fun x y => decide (x ≤ y)).Pairwise (· ≤ ·) := by
    have := List.pairwise_mergeSort (le := fun x y : List UInt8 => decide (x ≤ y)) (fun a b c h1 h2 => by simp only [decide_eq_true_eq] at *; exact List.le_trans h1 h2) (fun a b => by simp only [Bool.or_eq_true, decide_eq_true_eq]; exact List.le_total a b) (xs.map by8)
    exact this.imp (fun h => of_decide_eq_true h)
  obtain ⟨h1, h2⟩ := compact_inv _ hsort
  obtain ⟨h3, h4⟩ := fold_inv xs [] (by simp)
  apply by8_inj
  have e : (cmpct (srt xs)).map by8 = Lib.compact ((xs.map by8).mergeSort fun x y => decide (x ≤ y)) := by
    unfold cmpct
    rw [srt_by8, List.map_map]
    conv => rhs; rw [← List.map_id (Lib.compact ((xs.map by8).mergeSort fun x y => decide (x ≤ y)))]
    exact List.map_congr_left fun l _ => by8_of8 l
  rw [e]
  refine ordered_unique _ _ h2 h3 fun x => ?_
  rw [h1, List.mem_mergeSort]
  have hx : x = by8 (of8 x) := (by8_of8 x).symm
  rw [hx, mem_by8, mem_by8, h4]
  simp
end Go.Proofs.Ytjpaoeeeiklfnaa.StrSort
