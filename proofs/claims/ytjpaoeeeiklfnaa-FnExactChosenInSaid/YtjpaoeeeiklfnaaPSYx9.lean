/- What this text proves: the machine calls of these functions return what the plain functions say. Conditions: as each theorem says. Printed by a program of this session out of the translation. -/
import Derived.Test.YtjpaoeeeiklfnaaPSYx0
namespace Go.Proofs.Ytjpaoeeeiklfnaa.PSY
open Go.RowKit Go.Proofs.YtjpaoeeeiklfnaaW.PrintWords Go.Proofs.YtjpaoeeeiklfnaaW.PrintLast Go.Proofs.YtjpaoeeeiklfnaaW.PrintMore
attribute [local go_sem] max2_int min2_int max_two min_two max_three min_three max_four min_four   -- for this text's walks alone
set_option linter.unusedVariables false
set_option linter.unusedSimpArgs false

theorem info9 : (Try.prog.info? 9).map (fun i => (i.zero, i.size, i.bytes)) = some (some (.string ⟨#[]⟩), 1, 16) := by kernel_rfl
theorem info57 : (Try.prog.info? 57).map (fun i => (i.zero, i.size, i.bytes)) = some (some (.agg #[(.string ⟨#[]⟩), (.string ⟨#[]⟩)]), 2, 32) := by kernel_rfl
theorem tk1_ {P : Program} {ops : Array Oper} {Q : Exit → Act → World → Prop} {md : Region.Mode} {S : World → Prop} {ds : List Nat} (i : Nat) (N : Option Tmp) {oi : Oper} {v : Value} {fuel : Nat} {l l' : Array Bool} {a a' : Act} {w : World} (hi : ops[i]? = some oi := by rfl) (hN : oi.dst = N := by rfl) (hl : l.setIfInBounds i true = l' := by simp only [List.setIfInBounds_toArray, List.set_cons_zero, List.set_cons_succ]; rfl) (hc : takeB md ops ds l l' i = true := by first | exact take_ofW HT_.out HW_.out (by kernel_rfl) | kernel_rfl)
    (hQ : ∀ c a w, Q (.panic c) (a.put oi.dst v) w → Q (.panic c) a w := by exact fun _ _ _ h => h) (hy : YieldsIf P ops S oi v a := by exact Or.inl ⟨by rfl, by rintro w' s0; go_simp; with_reducible rfl⟩) (hS : S w := by exact hHeld) (ha : a.put N v = a' := by simp only [Act.put, List.setIfInBounds_toArray, List.set_cons_zero, List.set_cons_succ, i64_w, i32_w]; rfl) (h : wpAnyLast P md ops Q S ds fuel l' a' w) : wpAnyLast P md ops Q S ds (fuel + 1) l a w := take_ l' hi hN hc hQ hy hS ha h
/-! #### struct type 57 -/
structure S57 where
 f0 : ByteArray
 f1 : ByteArray
def z57 : S57 := ⟨(⟨#[]⟩ : ByteArray), (⟨#[]⟩ : ByteArray)⟩
def k57 : Kd S57 := Kd.iso (Kd.pair Kd.string Kd.string) (fun x : S57 => (x.f0, x.f1))
theorem k57_open {w : World} {x : S57} {cs : List Value} (h : k57.K w x cs) : cs = [.string x.f0, .string x.f1] := by
 obtain ⟨_, _, rfl, rfl, rfl⟩ := h
 exact rfl
theorem k57_openM {w : World} {base : Nat} {ok : Nat → Prop} {x : S57} {cs : List Value} (h : k57.M w base ok x cs) : cs = [.string x.f0, .string x.f1] := by
 obtain ⟨_, _, rfl, rfl, rfl⟩ := h
 exact rfl
theorem k57_mk (w : World) (x : S57)  : k57.K w x [.string x.f0, .string x.f1] := ⟨[.string x.f0], [.string x.f1], rfl, rfl, rfl⟩
theorem k57_mkM (w : World) (base : Nat) (ok : Nat → Prop) (x : S57)  : k57.M w base ok x [.string x.f0, .string x.f1] := ⟨[.string x.f0], [.string x.f1], rfl, rfl, rfl⟩
def rd_T57 (xs : List S57) (i : Int) : S57 := xs.getD i.toNat z57
theorem at_T57 {w : World} {A : Option Addr} {n : Nat} {xs : List S57} (h : Kd.C k57 w A n xs) (i : Int) (h0 : 0 ≤ i) (h1 : i < n) : ∃ ad , A = some ad ∧ w.cell? (ad.add (i.toNat * 2)) = some (.string (rd_T57 xs i).f0) ∧ w.cell? ⟨(ad.add (i.toNat * 2)).block, (ad.add (i.toNat * 2)).off + 1, none⟩ = some (.string (rd_T57 xs i).f1) := by
 obtain ⟨ad, c, e, _, hK, hc0⟩ := Kd.C_get h z57 i h0 h1
 have hc : ∀ j u, c[j]? = some u → w.cell? (ad.add (i.toNat * 2 + j)) = some u := hc0
 obtain rfl := k57_open hK
 exact ⟨ad, e, hc 0 _ rfl, by rw [← add_field _ _ 1 (by omega)]; exact hc 1 _ rfl⟩

/-! ### spec_l3Cells: function 27 -/
def spec_l3Cells.l0 : Nat → List (S57) → Int → ByteArray → ByteArray → Option ((List (S57)))
 | 0, _, _, _, _ => none
 | k + 1, x0, x5, x142000, x142001 => if x5 < (x0.length : Int) then (if 0 ≤ x5 then (if (Op.bytesLess (((rd_T57 x0 x5).f0).toList) x142000.toList) = true then (spec_l3Cells.l0 k x0 (wrap64 (x5 + 1)) x142000 x142001) else (if x5 ≤ (x0.length : Int) then ((some (x0.take (x5 : Int).toNat : List (S57))).bind fun y143 => (if ([] : List (S57)).length + y143.length < 4398046511104 then ((some (([] : List (S57)) ++ y143 : List (S57))).bind fun y147 => (if y147.length < 4398046511104 then ((some (y147 ++ [(⟨x142000, x142001⟩ : S57)] : List (S57))).bind fun y150 => (if ((rd_T57 x0 x5).f0).toList = x142000.toList then (if 0 ≤ (wrap64 (x5 + 1)) then (if (wrap64 (x5 + 1)) ≤ (x0.length : Int) then ((some (x0.drop ((wrap64 (x5 + 1)) : Int).toNat : List (S57))).bind fun y154 => (if y150.length + y154.length < 4398046511104 then (some (y150 ++ y154)) else (none))) else (none)) else (none)) else ((some (x0.drop (x5 : Int).toNat : List (S57))).bind fun y161 => (if y150.length + y161.length < 4398046511104 then (some (y150 ++ y161)) else (none))))) else (none))) else (none))) else (none))) else (none)) else (if 0 ≤ x5 then (if x5 ≤ (x0.length : Int) then ((some (x0.take (x5 : Int).toNat : List (S57))).bind fun y168 => (if ([] : List (S57)).length + y168.length < 4398046511104 then ((some (([] : List (S57)) ++ y168 : List (S57))).bind fun y172 => (if y172.length < 4398046511104 then ((some (y172 ++ [(⟨x142000, x142001⟩ : S57)] : List (S57))).bind fun y175 => ((some (x0.drop (x5 : Int).toNat : List (S57))).bind fun y178 => (if y175.length + y178.length < 4398046511104 then (some (y175 ++ y178)) else (none)))) else (none))) else (none))) else (none)) else (none))
def spec_l3Cells.f (k : Nat) (l0 : List (S57)) (a1_0 : ByteArray) (a1_1 : ByteArray) : Option ((List (S57))) := spec_l3Cells.l0 k l0 0 a1_0 a1_1
theorem spec_l3Cells.mono_l : ∀ k, (∀ y0 y1 y2 y3, LeO (spec_l3Cells.l0 k y0 y1 y2 y3) (spec_l3Cells.l0 (k + 1) y0 y1 y2 y3))
 | 0 => fun _ _ _ _ r h => by simp [spec_l3Cells.l0] at h
 | k + 1 => by
  have ih0 := spec_l3Cells.mono_l k
  ·intro y0 y1 y2 y3
   unfold spec_l3Cells.l0
   repeat' first
   | (with_reducible exact ih0 _ _ _ _)
   | (with_reducible exact LeO.refl _)
   | (with_reducible exact LeO.none _)
   | (with_reducible refine LeO.ite ?_ ?_)
   | (with_reducible refine LeO.bind ?_ (fun _ => ?_))
   | exact ih0 _ _ _ _
   | exact LeO.none _
   | refine LeO.ite ?_ ?_
   | refine LeO.bind ?_ (fun _ => ?_)
theorem spec_l3Cells.mono : ∀ a0 a1 a2 k, LeO (spec_l3Cells.f k a0 a1 a2) (spec_l3Cells.f (k + 1) a0 a1 a2) := by
 intro a0 a1 a2 k
 have ih0 := spec_l3Cells.mono_l k
 unfold spec_l3Cells.f
 repeat' first
   | (with_reducible exact ih0 _ _ _ _)
   | (with_reducible exact LeO.refl _)
   | (with_reducible exact LeO.none _)
   | (with_reducible refine LeO.ite ?_ ?_)
   | (with_reducible refine LeO.bind ?_ (fun _ => ?_))
   | exact ih0 _ _ _ _
   | exact LeO.none _
   | refine LeO.ite ?_ ?_
   | refine LeO.bind ?_ (fun _ => ?_)
set_option maxHeartbeats 8000000 in
set_option maxRecDepth 100000 in
theorem spec_l3Cells.calls (k : Nat) (A0 : Option Addr) (c0 : Nat) (l0 : List (S57)) (a1_0 : ByteArray) (a1_1 : ByteArray) (r : List (S57)) (w : World) (hr0 : Kd.C k57 w A0 l0.length l0) (hc0 : l0.length ≤ c0) (h : spec_l3Cells.f k l0 a1_0 a1_1 = some r) :
  Calls Try.prog 27 #[.slice A0 l0.length c0, .agg #[.string a1_0, .string a1_1]] w fun e w' => ∃ v0_ : Value, e = .returned (v0_) ∧ Kd.R k57 57 w' w.heap.size (fun _ => True) v0_ r ∧ Below w.heap.size w w' := by
 have hu57 := Try.underlying57
 have HR0 := Aside0.mk hr0
 have HC0 := Aside0.mk hc0
 clear hr0 hc0
 have HB := Aside0.mk (Below.refl w.heap.size w)
 have H : (spec_l3Cells.l0 k l0 0 a1_0 a1_1) = some r := h
 clear h
 have H' := Aside0.mk H
 clear H
 go_enter Try.func27, Try.ntmps27
 go_wp2_with (first | ((with_reducible refine gate_dst (N := 3) rfl ?_); refine box_event rfl (N := 3) rfl (cs := #[.string a1_0, .string a1_1]) (t := 57) gs_ ?_; intro gb141 hg w3 hbox hb; have BK141 := Aside0.mk (hbox); have GW141 := Aside0.mk ((by rw [hg]; exact bz_ : w.heap.size ≤ gb141)); have GE141 := GW141; replace HB := Aside0.mk (below_step bl_ hb); clear hb hbox hg))
 repeat (go_quiet (first | ((with_reducible refine gate_dst (N := 3) rfl ?_); refine box_event rfl (N := 3) rfl (cs := #[.string a1_0, .string a1_1]) (t := 57) gs_ ?_; intro gb141 hg w3 hbox hb; have BK141 := Aside0.mk (hbox); have GW141 := Aside0.mk ((by rw [hg]; exact bz_ : w.heap.size ≤ gb141)); have GE141 := GW141; replace HB := Aside0.mk (below_step bl_ hb); clear hb hbox hg)); try go_wp2_with (first | ((with_reducible refine gate_dst (N := 3) rfl ?_); refine box_event rfl (N := 3) rfl (cs := #[.string a1_0, .string a1_1]) (t := 57) gs_ ?_; intro gb141 hg w3 hbox hb; have BK141 := Aside0.mk (hbox); have GW141 := Aside0.mk ((by rw [hg]; exact bz_ : w.heap.size ≤ gb141)); have GE141 := GW141; replace HB := Aside0.mk (below_step bl_ hb); clear hb hbox hg)))
 go_loopg [5] k (fun kq v5 w' => ∃ (x5_1 : Int), v5 = .int .i64 x5_1 ∧ Aside0 (spec_l3Cells.l0 kq l0 x5_1 a1_0 a1_1 = some r) ∧ Aside0 (kq ≤ k) ∧ Aside0 (w'.heap[gb141]? = some (.cells #[.string a1_0, .string a1_1] 57 (0, 0))) ∧ Aside0 (Below w.heap.size w w'))
 case atStart => exact ⟨(0), (by first | rfl | (simp; done) | (simp [*]; done)), H', ⟨Nat.le_refl _⟩, ⟨by exact kb_ BK141.out⟩, ⟨bl_⟩⟩
 clear H'
 try clear c2
 try clear p2
 obtain ⟨x5_1, rfl, HA, HK1, BK141, HB⟩ := hrel
 cases gk with
 | zero => exact absurd HA.out (by simp [spec_l3Cells.l0])
 | succ k1 => ?_
 have H := HA.out
 clear HA
 simp only [spec_l3Cells.l0] at H
 by_cases c4 : x5_1 < (l0.length : Int)
 rotate_left
 ·rw [if_neg c4] at H
  have c4b0 : decide (x5_1 < (l0.length : Int)) = false := decide_eq_false c4
  clear c4
  by_cases c36 : 0 ≤ x5_1
  rotate_left
  ·rw [if_neg c36] at H
   exact absurd H (by simp)
  rw [if_pos c36] at H
  have c36b0 := eq_true c36
  have c36b1 : decide (0 ≤ x5_1) = true := decide_eq_true c36
  clear c36
  by_cases c37 : x5_1 ≤ (l0.length : Int)
  rotate_left
  ·rw [if_neg c37] at H
   exact absurd H (by simp)
  rw [if_pos c37] at H
  have c37b0 := eq_true c37
  have c37b1 : decide (x5_1 ≤ (l0.length : Int)) = true := decide_eq_true c37
  clear c37
  obtain ⟨y168, hy168⟩ : ∃ y_ : List (S57), y_ = (l0.take (x5_1 : Int).toNat) := ⟨_, rfl⟩
  replace H : (if ([] : List (S57)).length + y168.length < 4398046511104 then ((some (([] : List (S57)) ++ y168 : List (S57))).bind fun y172 => (if y172.length < 4398046511104 then ((some (y172 ++ [(⟨a1_0, a1_1⟩ : S57)] : List (S57))).bind fun y175 => ((some (l0.drop (x5_1 : Int).toNat : List (S57))).bind fun y178 => (if y175.length + y178.length < 4398046511104 then (some (y175 ++ y178)) else (none)))) else (none))) else (none)) = some r := by first | (rw [hy168]; with_reducible exact H) | (have H2_ := (Option.bind_some _ _).symm.trans H; rw [hy168]; with_reducible exact H2_) | (have H2_ := (Option.bind_some _ _).symm.trans H; with_reducible exact H2_) | with_reducible exact H | (rw [hy168]; exact H) | exact H
  have Ny168 := Aside0.mk hy168
  clear hy168
  by_cases c38 : ([] : List (S57)).length + y168.length < 4398046511104
  rotate_left
  ·rw [if_neg c38] at H
   exact absurd H (by simp)
  rw [if_pos c38] at H
  have LMc38 := Aside0.mk c38
  clear c38
  obtain ⟨y172, hy172⟩ : ∃ y_ : List (S57), y_ = (([] : List (S57)) ++ y168) := ⟨_, rfl⟩
  replace H : (if y172.length < 4398046511104 then ((some (y172 ++ [(⟨a1_0, a1_1⟩ : S57)] : List (S57))).bind fun y175 => ((some (l0.drop (x5_1 : Int).toNat : List (S57))).bind fun y178 => (if y175.length + y178.length < 4398046511104 then (some (y175 ++ y178)) else (none)))) else (none)) = some r := by first | (rw [hy172]; with_reducible exact H) | (have H2_ := (Option.bind_some _ _).symm.trans H; rw [hy172]; with_reducible exact H2_) | (have H2_ := (Option.bind_some _ _).symm.trans H; with_reducible exact H2_) | with_reducible exact H | (rw [hy172]; exact H) | exact H
  have Ny172 := Aside0.mk hy172
  clear hy172
  by_cases c39 : y172.length < 4398046511104
  rotate_left
  ·rw [if_neg c39] at H
   exact absurd H (by simp)
  rw [if_pos c39] at H
  have LMc39 := Aside0.mk c39
  clear c39
  obtain ⟨y175, hy175⟩ : ∃ y_ : List (S57), y_ = (y172 ++ [(⟨a1_0, a1_1⟩ : S57)]) := ⟨_, rfl⟩
  replace H : ((some (l0.drop (x5_1 : Int).toNat : List (S57))).bind fun y178 => (if y175.length + y178.length < 4398046511104 then (some (y175 ++ y178)) else (none))) = some r := by first | (rw [hy175]; with_reducible exact H) | (have H2_ := (Option.bind_some _ _).symm.trans H; rw [hy175]; with_reducible exact H2_) | (have H2_ := (Option.bind_some _ _).symm.trans H; with_reducible exact H2_) | with_reducible exact H | (rw [hy175]; exact H) | exact H
  have Ny175 := Aside0.mk hy175
  clear hy175
  have c40b0 := eq_true (of_decide_eq_true (by first | (with_reducible assumption) | assumption) : 0 ≤ x5_1)
  have c41b0 := eq_true (of_decide_eq_true (by first | (with_reducible assumption) | assumption) : x5_1 ≤ (l0.length : Int))
  obtain ⟨y178, hy178⟩ : ∃ y_ : List (S57), y_ = (l0.drop (x5_1 : Int).toNat) := ⟨_, rfl⟩
  replace H : (if y175.length + y178.length < 4398046511104 then (some (y175 ++ y178)) else (none)) = some r := by first | (rw [hy178]; with_reducible exact H) | (have H2_ := (Option.bind_some _ _).symm.trans H; rw [hy178]; with_reducible exact H2_) | (have H2_ := (Option.bind_some _ _).symm.trans H; with_reducible exact H2_) | with_reducible exact H | (rw [hy178]; exact H) | exact H
  have Ny178 := Aside0.mk hy178
  clear hy178
  by_cases c42 : y175.length + y178.length < 4398046511104
  rotate_left
  ·rw [if_neg c42] at H
   exact absurd H (by simp)
  rw [if_pos c42] at H
  have LMc42 := Aside0.mk c42
  clear c42
  obtain ⟨y182, hy182⟩ : ∃ y_ : List (S57), y_ = (y175 ++ y178) := ⟨_, rfl⟩
  replace H : (some y182) = some r := by first | (rw [hy182]; with_reducible exact H) | (have H2_ := (Option.bind_some _ _).symm.trans H; rw [hy182]; with_reducible exact H2_) | (have H2_ := (Option.bind_some _ _).symm.trans H; with_reducible exact H2_) | with_reducible exact H | (rw [hy182]; exact H) | exact H
  have Ny182 := Aside0.mk hy182
  clear hy182
  obtain rfl := Option.some.inj H
  have q43 : (x5_1 : Int) ≤ ((l0.length : Int) : Int) := of_decide_eq_true (by first | (with_reducible assumption) | assumption)
  obtain ⟨i043, hi043, _, hsz43, _⟩ := info_parts info57
  have hroom43 : l0.length ≤ c0 := HC0.out
  have hC43 : Kd.C k57 _ A0 l0.length l0 := HR0.out
  have hcut43 := cut_to (P := Try.prog) 50 57 .i64 Try.underlying50 hi043 A0 l0.length c0 x5_1 (of_decide_eq_true (by first | (with_reducible assumption) | assumption)) q43 hroom43
  have hr43 := Kd.C_take (m := (x5_1 : Int).toNat) hC43 (by omega)
  have hy43 : y168.length = (x5_1 : Int).toNat := (by rw [Ny168.out, List.length_take]; omega)
  rw [← Ny168.out] at hr43
  rw [← hy43] at hcut43
  have HR171 := Aside0.mk hr43
  have HC171 := Aside0.mk (show y168.length ≤ c0 from by omega)
  clear hr43 hC43 hroom43 hi043 hsz43
  have KY43 := Aside0.mk hy43
  clear hy43
  replace q43 := eq_true q43
  go_wp2_with (first | ((with_reducible refine gate_builtin (b := .append) (xs := #[.tmp 23, .tmp 26]) rfl ?_); at_builtin; refine Kd.R_append_rows k57 (w0 := w) w.heap.size rfl (.tmp 23) (.tmp 26) 50 57 (.agg #[(.string ⟨#[]⟩), (.string ⟨#[]⟩)]) 32 rfl Try.underlying50 info57 rfl (by decide) (by omega) (.slice none 0 0) ([] : List (S57)) y168 _ _ _ (fun k_ => k_ ≠ gb141) (fun _ => False) rfl rfl ?aO ?aR (fun _ _ h => h) (fun _ h => h.elim) ?aF ?aB ?aS ?aL ?_; (case aR => exact kc_ (Kd.C_below HR171.out HB.out)); (case aB => exact bl_); (case aF => exact (fun k_ hk => Kd.freshB (kb_ BK141.out) k_ hk)); (case aO => exact ((Kd.R_nil _ _ _ _ (fun k_ => k_ ≠ gb141)))); (case aS => exact bz_); (case aL => have := LMc38.out; omega); intro v173 w44 ho hb hg hat; rw [← Ny172.out] at ho; replace BK141 := Aside0.mk (blk_grown (kb_ BK141.out) hg (by simp [Value.ownBlock])); replace HB := Aside0.mk (hb); have HO174 := Aside0.mk (ho); clear ho hb hg hat; have hcz45_0 : w44.cell? ⟨gb141, 0, none⟩ = some (.string a1_0) := bc_ BK141.out 0; have hcz45_1 : w44.cell? ⟨gb141, 1, none⟩ = some (.string a1_1) := bc_ BK141.out 1; have hfz45_0 := blk_frozen BK141.out 0; have hfz45_1 := blk_frozen BK141.out 1) | ((with_reducible refine gate_builtin (b := .append) (xs := #[.tmp 28, .tmp 30]) rfl ?_); at_builtin; refine Kd.R_append k57 (w0 := w) w.heap.size rfl (.tmp 28) (.tmp 30) 50 57 (.agg #[(.string ⟨#[]⟩), (.string ⟨#[]⟩)]) 32 rfl Try.underlying50 info57 rfl (by decide) (by omega) v173 y172 (⟨a1_0, a1_1⟩ : S57) [.string a1_0, .string a1_1] (fun k_ => k_ ≠ gb141) (fun _ => False) rfl rfl ?aP (fun _ hk => hk.elim) ?aF ?aO ?aB ?aS ?aL ?_; (case aP => exact k57_mkM _ _ _ (⟨a1_0, a1_1⟩ : S57)); (case aB => exact bl_); (case aF => exact (fun k_ hk => Kd.freshB (kb_ BK141.out) k_ hk)); (case aO => exact (kr_ HO174.out)); (case aS => exact bz_); (case aL => have := LMc39.out; omega); intro v176 w46 ho hb hg hat; rw [← Ny175.out] at ho; replace BK141 := Aside0.mk (blk_grown (kb_ BK141.out) hg (Kd.R_away HO174.out (fun _ hk => hk))); replace HB := Aside0.mk (hb); have HO177 := Aside0.mk (ho); clear HO174 ho hb hg hat; have q47 : (x5_1 : Int) ≤ ((l0.length : Int) : Int) := of_decide_eq_true (by first | (with_reducible assumption) | assumption); obtain ⟨i047, hi047, _, hsz47, _⟩ := info_parts info57; have hroom47 : l0.length ≤ c0 := HC0.out; have hC47 : Kd.C k57 _ A0 l0.length l0 := HR0.out; have q047 : (0 : Int) ≤ (x5_1 : Int) := of_decide_eq_true (by first | (with_reducible assumption) | assumption); have hcut47 := cut_from (P := Try.prog) 50 57 .i64 Try.underlying50 hi047 2 hsz47 A0 l0.length c0 x5_1 q047 q47; have hr47 := Kd.C_drop (m := (x5_1 : Int).toNat) (c := c0) hC47 (by omega) hroom47; obtain ⟨A47, hA47⟩ : ∃ A1, A1 = (if c0 = (x5_1 : Int).toNat then A0 else (A0 : Option Addr).map (·.add ((x5_1 : Int).toNat * 2))) := ⟨_, rfl⟩; obtain ⟨c47, hc47⟩ : ∃ c1, c1 = c0 - (x5_1 : Int).toNat := ⟨_, rfl⟩; have hy47 : y178.length = l0.length - (x5_1 : Int).toNat := (by rw [Ny178.out, List.length_drop] <;> omega); rw [show (l0).drop (x5_1 : Int).toNat = y178 from Ny178.out.symm] at hr47; replace hr47 : Kd.C k57 _ A47 y178.length y178 := (by rw [hA47]; exact hr47); rw [← hy47, ← hA47, ← hc47] at hcut47; have HR181 := Aside0.mk hr47; have HC181 := Aside0.mk (show y178.length ≤ c47 from by rw [hy47, hc47]; exact Nat.sub_le_sub_right hroom47 _); clear hr47 hC47 hroom47 hi047 hsz47 hc47; have KY47 := Aside0.mk hy47; have KA47 := Aside0.mk hA47; clear hy47 hA47; replace q47 := eq_true q47) | ((with_reducible refine gate_builtin (b := .append) (xs := #[.tmp 48, .tmp 51]) rfl ?_); at_builtin; refine Kd.R_append_rows k57 (w0 := w) w.heap.size rfl (.tmp 48) (.tmp 51) 50 57 (.agg #[(.string ⟨#[]⟩), (.string ⟨#[]⟩)]) 32 rfl Try.underlying50 info57 rfl (by decide) (by omega) v176 y175 y178 _ _ _ (fun k_ => k_ ≠ gb141) (fun _ => False) rfl rfl ?aO ?aR (fun _ _ h => h) (fun _ h => h.elim) ?aF ?aB ?aS ?aL ?_; (case aR => exact kc_ (Kd.C_below HR181.out HB.out)); (case aB => exact bl_); (case aF => exact (fun k_ hk => Kd.freshB (kb_ BK141.out) k_ hk)); (case aO => exact (kr_ HO177.out)); (case aS => exact bz_); (case aL => have := LMc42.out; omega); intro v183 w48 ho hb hg hat; rw [← Ny182.out] at ho; replace BK141 := Aside0.mk (blk_grown (kb_ BK141.out) hg (Kd.R_away HO177.out (fun _ hk => hk))); replace HB := Aside0.mk (hb); have HO184 := Aside0.mk (ho); clear HO177 ho hb hg hat))
  repeat (go_quiet (first | ((with_reducible refine gate_builtin (b := .append) (xs := #[.tmp 23, .tmp 26]) rfl ?_); at_builtin; refine Kd.R_append_rows k57 (w0 := w) w.heap.size rfl (.tmp 23) (.tmp 26) 50 57 (.agg #[(.string ⟨#[]⟩), (.string ⟨#[]⟩)]) 32 rfl Try.underlying50 info57 rfl (by decide) (by omega) (.slice none 0 0) ([] : List (S57)) y168 _ _ _ (fun k_ => k_ ≠ gb141) (fun _ => False) rfl rfl ?aO ?aR (fun _ _ h => h) (fun _ h => h.elim) ?aF ?aB ?aS ?aL ?_; (case aR => exact kc_ (Kd.C_below HR171.out HB.out)); (case aB => exact bl_); (case aF => exact (fun k_ hk => Kd.freshB (kb_ BK141.out) k_ hk)); (case aO => exact ((Kd.R_nil _ _ _ _ (fun k_ => k_ ≠ gb141)))); (case aS => exact bz_); (case aL => have := LMc38.out; omega); intro v173 w44 ho hb hg hat; rw [← Ny172.out] at ho; replace BK141 := Aside0.mk (blk_grown (kb_ BK141.out) hg (by simp [Value.ownBlock])); replace HB := Aside0.mk (hb); have HO174 := Aside0.mk (ho); clear ho hb hg hat; have hcz45_0 : w44.cell? ⟨gb141, 0, none⟩ = some (.string a1_0) := bc_ BK141.out 0; have hcz45_1 : w44.cell? ⟨gb141, 1, none⟩ = some (.string a1_1) := bc_ BK141.out 1; have hfz45_0 := blk_frozen BK141.out 0; have hfz45_1 := blk_frozen BK141.out 1) | ((with_reducible refine gate_builtin (b := .append) (xs := #[.tmp 28, .tmp 30]) rfl ?_); at_builtin; refine Kd.R_append k57 (w0 := w) w.heap.size rfl (.tmp 28) (.tmp 30) 50 57 (.agg #[(.string ⟨#[]⟩), (.string ⟨#[]⟩)]) 32 rfl Try.underlying50 info57 rfl (by decide) (by omega) v173 y172 (⟨a1_0, a1_1⟩ : S57) [.string a1_0, .string a1_1] (fun k_ => k_ ≠ gb141) (fun _ => False) rfl rfl ?aP (fun _ hk => hk.elim) ?aF ?aO ?aB ?aS ?aL ?_; (case aP => exact k57_mkM _ _ _ (⟨a1_0, a1_1⟩ : S57)); (case aB => exact bl_); (case aF => exact (fun k_ hk => Kd.freshB (kb_ BK141.out) k_ hk)); (case aO => exact (kr_ HO174.out)); (case aS => exact bz_); (case aL => have := LMc39.out; omega); intro v176 w46 ho hb hg hat; rw [← Ny175.out] at ho; replace BK141 := Aside0.mk (blk_grown (kb_ BK141.out) hg (Kd.R_away HO174.out (fun _ hk => hk))); replace HB := Aside0.mk (hb); have HO177 := Aside0.mk (ho); clear HO174 ho hb hg hat; have q47 : (x5_1 : Int) ≤ ((l0.length : Int) : Int) := of_decide_eq_true (by first | (with_reducible assumption) | assumption); obtain ⟨i047, hi047, _, hsz47, _⟩ := info_parts info57; have hroom47 : l0.length ≤ c0 := HC0.out; have hC47 : Kd.C k57 _ A0 l0.length l0 := HR0.out; have q047 : (0 : Int) ≤ (x5_1 : Int) := of_decide_eq_true (by first | (with_reducible assumption) | assumption); have hcut47 := cut_from (P := Try.prog) 50 57 .i64 Try.underlying50 hi047 2 hsz47 A0 l0.length c0 x5_1 q047 q47; have hr47 := Kd.C_drop (m := (x5_1 : Int).toNat) (c := c0) hC47 (by omega) hroom47; obtain ⟨A47, hA47⟩ : ∃ A1, A1 = (if c0 = (x5_1 : Int).toNat then A0 else (A0 : Option Addr).map (·.add ((x5_1 : Int).toNat * 2))) := ⟨_, rfl⟩; obtain ⟨c47, hc47⟩ : ∃ c1, c1 = c0 - (x5_1 : Int).toNat := ⟨_, rfl⟩; have hy47 : y178.length = l0.length - (x5_1 : Int).toNat := (by rw [Ny178.out, List.length_drop] <;> omega); rw [show (l0).drop (x5_1 : Int).toNat = y178 from Ny178.out.symm] at hr47; replace hr47 : Kd.C k57 _ A47 y178.length y178 := (by rw [hA47]; exact hr47); rw [← hy47, ← hA47, ← hc47] at hcut47; have HR181 := Aside0.mk hr47; have HC181 := Aside0.mk (show y178.length ≤ c47 from by rw [hy47, hc47]; exact Nat.sub_le_sub_right hroom47 _); clear hr47 hC47 hroom47 hi047 hsz47 hc47; have KY47 := Aside0.mk hy47; have KA47 := Aside0.mk hA47; clear hy47 hA47; replace q47 := eq_true q47) | ((with_reducible refine gate_builtin (b := .append) (xs := #[.tmp 48, .tmp 51]) rfl ?_); at_builtin; refine Kd.R_append_rows k57 (w0 := w) w.heap.size rfl (.tmp 48) (.tmp 51) 50 57 (.agg #[(.string ⟨#[]⟩), (.string ⟨#[]⟩)]) 32 rfl Try.underlying50 info57 rfl (by decide) (by omega) v176 y175 y178 _ _ _ (fun k_ => k_ ≠ gb141) (fun _ => False) rfl rfl ?aO ?aR (fun _ _ h => h) (fun _ h => h.elim) ?aF ?aB ?aS ?aL ?_; (case aR => exact kc_ (Kd.C_below HR181.out HB.out)); (case aB => exact bl_); (case aF => exact (fun k_ hk => Kd.freshB (kb_ BK141.out) k_ hk)); (case aO => exact (kr_ HO177.out)); (case aS => exact bz_); (case aL => have := LMc42.out; omega); intro v183 w48 ho hb hg hat; rw [← Ny182.out] at ho; replace BK141 := Aside0.mk (blk_grown (kb_ BK141.out) hg (Kd.R_away HO177.out (fun _ hk => hk))); replace HB := Aside0.mk (hb); have HO184 := Aside0.mk (ho); clear HO177 ho hb hg hat)); try go_wp2_with (first | ((with_reducible refine gate_builtin (b := .append) (xs := #[.tmp 23, .tmp 26]) rfl ?_); at_builtin; refine Kd.R_append_rows k57 (w0 := w) w.heap.size rfl (.tmp 23) (.tmp 26) 50 57 (.agg #[(.string ⟨#[]⟩), (.string ⟨#[]⟩)]) 32 rfl Try.underlying50 info57 rfl (by decide) (by omega) (.slice none 0 0) ([] : List (S57)) y168 _ _ _ (fun k_ => k_ ≠ gb141) (fun _ => False) rfl rfl ?aO ?aR (fun _ _ h => h) (fun _ h => h.elim) ?aF ?aB ?aS ?aL ?_; (case aR => exact kc_ (Kd.C_below HR171.out HB.out)); (case aB => exact bl_); (case aF => exact (fun k_ hk => Kd.freshB (kb_ BK141.out) k_ hk)); (case aO => exact ((Kd.R_nil _ _ _ _ (fun k_ => k_ ≠ gb141)))); (case aS => exact bz_); (case aL => have := LMc38.out; omega); intro v173 w44 ho hb hg hat; rw [← Ny172.out] at ho; replace BK141 := Aside0.mk (blk_grown (kb_ BK141.out) hg (by simp [Value.ownBlock])); replace HB := Aside0.mk (hb); have HO174 := Aside0.mk (ho); clear ho hb hg hat; have hcz45_0 : w44.cell? ⟨gb141, 0, none⟩ = some (.string a1_0) := bc_ BK141.out 0; have hcz45_1 : w44.cell? ⟨gb141, 1, none⟩ = some (.string a1_1) := bc_ BK141.out 1; have hfz45_0 := blk_frozen BK141.out 0; have hfz45_1 := blk_frozen BK141.out 1) | ((with_reducible refine gate_builtin (b := .append) (xs := #[.tmp 28, .tmp 30]) rfl ?_); at_builtin; refine Kd.R_append k57 (w0 := w) w.heap.size rfl (.tmp 28) (.tmp 30) 50 57 (.agg #[(.string ⟨#[]⟩), (.string ⟨#[]⟩)]) 32 rfl Try.underlying50 info57 rfl (by decide) (by omega) v173 y172 (⟨a1_0, a1_1⟩ : S57) [.string a1_0, .string a1_1] (fun k_ => k_ ≠ gb141) (fun _ => False) rfl rfl ?aP (fun _ hk => hk.elim) ?aF ?aO ?aB ?aS ?aL ?_; (case aP => exact k57_mkM _ _ _ (⟨a1_0, a1_1⟩ : S57)); (case aB => exact bl_); (case aF => exact (fun k_ hk => Kd.freshB (kb_ BK141.out) k_ hk)); (case aO => exact (kr_ HO174.out)); (case aS => exact bz_); (case aL => have := LMc39.out; omega); intro v176 w46 ho hb hg hat; rw [← Ny175.out] at ho; replace BK141 := Aside0.mk (blk_grown (kb_ BK141.out) hg (Kd.R_away HO174.out (fun _ hk => hk))); replace HB := Aside0.mk (hb); have HO177 := Aside0.mk (ho); clear HO174 ho hb hg hat; have q47 : (x5_1 : Int) ≤ ((l0.length : Int) : Int) := of_decide_eq_true (by first | (with_reducible assumption) | assumption); obtain ⟨i047, hi047, _, hsz47, _⟩ := info_parts info57; have hroom47 : l0.length ≤ c0 := HC0.out; have hC47 : Kd.C k57 _ A0 l0.length l0 := HR0.out; have q047 : (0 : Int) ≤ (x5_1 : Int) := of_decide_eq_true (by first | (with_reducible assumption) | assumption); have hcut47 := cut_from (P := Try.prog) 50 57 .i64 Try.underlying50 hi047 2 hsz47 A0 l0.length c0 x5_1 q047 q47; have hr47 := Kd.C_drop (m := (x5_1 : Int).toNat) (c := c0) hC47 (by omega) hroom47; obtain ⟨A47, hA47⟩ : ∃ A1, A1 = (if c0 = (x5_1 : Int).toNat then A0 else (A0 : Option Addr).map (·.add ((x5_1 : Int).toNat * 2))) := ⟨_, rfl⟩; obtain ⟨c47, hc47⟩ : ∃ c1, c1 = c0 - (x5_1 : Int).toNat := ⟨_, rfl⟩; have hy47 : y178.length = l0.length - (x5_1 : Int).toNat := (by rw [Ny178.out, List.length_drop] <;> omega); rw [show (l0).drop (x5_1 : Int).toNat = y178 from Ny178.out.symm] at hr47; replace hr47 : Kd.C k57 _ A47 y178.length y178 := (by rw [hA47]; exact hr47); rw [← hy47, ← hA47, ← hc47] at hcut47; have HR181 := Aside0.mk hr47; have HC181 := Aside0.mk (show y178.length ≤ c47 from by rw [hy47, hc47]; exact Nat.sub_le_sub_right hroom47 _); clear hr47 hC47 hroom47 hi047 hsz47 hc47; have KY47 := Aside0.mk hy47; have KA47 := Aside0.mk hA47; clear hy47 hA47; replace q47 := eq_true q47) | ((with_reducible refine gate_builtin (b := .append) (xs := #[.tmp 48, .tmp 51]) rfl ?_); at_builtin; refine Kd.R_append_rows k57 (w0 := w) w.heap.size rfl (.tmp 48) (.tmp 51) 50 57 (.agg #[(.string ⟨#[]⟩), (.string ⟨#[]⟩)]) 32 rfl Try.underlying50 info57 rfl (by decide) (by omega) v176 y175 y178 _ _ _ (fun k_ => k_ ≠ gb141) (fun _ => False) rfl rfl ?aO ?aR (fun _ _ h => h) (fun _ h => h.elim) ?aF ?aB ?aS ?aL ?_; (case aR => exact kc_ (Kd.C_below HR181.out HB.out)); (case aB => exact bl_); (case aF => exact (fun k_ hk => Kd.freshB (kb_ BK141.out) k_ hk)); (case aO => exact (kr_ HO177.out)); (case aS => exact bz_); (case aL => have := LMc42.out; omega); intro v183 w48 ho hb hg hat; rw [← Ny182.out] at ho; replace BK141 := Aside0.mk (blk_grown (kb_ BK141.out) hg (Kd.R_away HO177.out (fun _ hk => hk))); replace HB := Aside0.mk (hb); have HO184 := Aside0.mk (ho); clear HO177 ho hb hg hat)))
  go_ret
  exact ⟨_, ng_, by exact kr_ (Kd.R_mono HO184.out (fun _ hk => trivial)), bl_⟩
 rw [if_pos c4] at H
 have c4b0 : decide (x5_1 < (l0.length : Int)) = true := decide_eq_true c4
 clear c4
 by_cases c5 : 0 ≤ x5_1
 rotate_left
 ·rw [if_neg c5] at H
  exact absurd H (by simp)
 rw [if_pos c5] at H
 have c5b0 : decide (0 ≤ x5_1) = true := decide_eq_true c5
 clear c5
 by_cases c6 : (Op.bytesLess (((rd_T57 l0 x5_1).f0).toList) a1_0.toList) = true
 ·rw [if_pos c6] at H
  have c6b0 : (Op.bytesLess (((rd_T57 l0 x5_1).f0).toList) a1_0.toList) = true := c6
  clear c6
  have H' := Aside0.mk H
  clear H
  have p142 : 0 ≤ (x5_1 : Int) := of_decide_eq_true (by first | (with_reducible assumption) | assumption)
  have q142 : x5_1 < (l0.length : Int) := of_decide_eq_true (by first | (with_reducible assumption) | assumption)
  obtain ⟨ad142, e142, hx142_0, hx142_1⟩ := at_T57 HR0.out x5_1 p142 q142
  cases e142
  replace hx142_0 := (HB.out.cell (World.block_lt_of_cell? w _ hx142_0)).trans hx142_0
  replace hx142_1 := (HB.out.cell (World.block_lt_of_cell? w _ hx142_1)).trans hx142_1
  replace p142 := eq_true p142
  replace q142 := eq_true q142
  have hcz7_0 : wr.cell? ⟨gb141, 0, none⟩ = some (.string a1_0) := bc_ BK141.out 0
  have hcz7_1 : wr.cell? ⟨gb141, 1, none⟩ = some (.string a1_1) := bc_ BK141.out 1
  have hfz7_0 := blk_frozen BK141.out 0
  have hfz7_1 := blk_frozen BK141.out 1
  go_wp2
  repeat (go_quiet (fail); try go_wp2)
  go_roundg k1
  case measure => have := HK1.out; omega
  case rel => exact ⟨(wrap64 (x5_1 + 1)), (by first | rfl | (simp; done) | (simp [*]; done)), H', ⟨by have := HK1.out; omega⟩, ⟨by exact kb_ BK141.out⟩, ⟨bl_⟩⟩
 rw [if_neg c6] at H
 have c6b0 : (Op.bytesLess (((rd_T57 l0 x5_1).f0).toList) a1_0.toList) = false := by simpa using c6
 clear c6
 have c8b0 := eq_true (of_decide_eq_true (by first | (with_reducible assumption) | assumption) : 0 ≤ x5_1)
 by_cases c9 : x5_1 ≤ (l0.length : Int)
 rotate_left
 ·rw [if_neg c9] at H
  exact absurd H (by simp)
 rw [if_pos c9] at H
 have c9b0 := eq_true c9
 have c9b1 : decide (x5_1 ≤ (l0.length : Int)) = true := decide_eq_true c9
 clear c9
 obtain ⟨y143, hy143⟩ : ∃ y_ : List (S57), y_ = (l0.take (x5_1 : Int).toNat) := ⟨_, rfl⟩
 replace H : (if ([] : List (S57)).length + y143.length < 4398046511104 then ((some (([] : List (S57)) ++ y143 : List (S57))).bind fun y147 => (if y147.length < 4398046511104 then ((some (y147 ++ [(⟨a1_0, a1_1⟩ : S57)] : List (S57))).bind fun y150 => (if ((rd_T57 l0 x5_1).f0).toList = a1_0.toList then (if 0 ≤ (wrap64 (x5_1 + 1)) then (if (wrap64 (x5_1 + 1)) ≤ (l0.length : Int) then ((some (l0.drop ((wrap64 (x5_1 + 1)) : Int).toNat : List (S57))).bind fun y154 => (if y150.length + y154.length < 4398046511104 then (some (y150 ++ y154)) else (none))) else (none)) else (none)) else ((some (l0.drop (x5_1 : Int).toNat : List (S57))).bind fun y161 => (if y150.length + y161.length < 4398046511104 then (some (y150 ++ y161)) else (none))))) else (none))) else (none)) = some r := by first | (rw [hy143]; with_reducible exact H) | (have H2_ := (Option.bind_some _ _).symm.trans H; rw [hy143]; with_reducible exact H2_) | (have H2_ := (Option.bind_some _ _).symm.trans H; with_reducible exact H2_) | with_reducible exact H | (rw [hy143]; exact H) | exact H
 have Ny143 := Aside0.mk hy143
 clear hy143
 by_cases c10 : ([] : List (S57)).length + y143.length < 4398046511104
 rotate_left
 ·rw [if_neg c10] at H
  exact absurd H (by simp)
 rw [if_pos c10] at H
 have LMc10 := Aside0.mk c10
 clear c10
 obtain ⟨y147, hy147⟩ : ∃ y_ : List (S57), y_ = (([] : List (S57)) ++ y143) := ⟨_, rfl⟩
 replace H : (if y147.length < 4398046511104 then ((some (y147 ++ [(⟨a1_0, a1_1⟩ : S57)] : List (S57))).bind fun y150 => (if ((rd_T57 l0 x5_1).f0).toList = a1_0.toList then (if 0 ≤ (wrap64 (x5_1 + 1)) then (if (wrap64 (x5_1 + 1)) ≤ (l0.length : Int) then ((some (l0.drop ((wrap64 (x5_1 + 1)) : Int).toNat : List (S57))).bind fun y154 => (if y150.length + y154.length < 4398046511104 then (some (y150 ++ y154)) else (none))) else (none)) else (none)) else ((some (l0.drop (x5_1 : Int).toNat : List (S57))).bind fun y161 => (if y150.length + y161.length < 4398046511104 then (some (y150 ++ y161)) else (none))))) else (none)) = some r := by first | (rw [hy147]; with_reducible exact H) | (have H2_ := (Option.bind_some _ _).symm.trans H; rw [hy147]; with_reducible exact H2_) | (have H2_ := (Option.bind_some _ _).symm.trans H; with_reducible exact H2_) | with_reducible exact H | (rw [hy147]; exact H) | exact H
 have Ny147 := Aside0.mk hy147
 clear hy147
 by_cases c11 : y147.length < 4398046511104
 rotate_left
 ·rw [if_neg c11] at H
  exact absurd H (by simp)
 rw [if_pos c11] at H
 have LMc11 := Aside0.mk c11
 clear c11
 obtain ⟨y150, hy150⟩ : ∃ y_ : List (S57), y_ = (y147 ++ [(⟨a1_0, a1_1⟩ : S57)]) := ⟨_, rfl⟩
 replace H : (if ((rd_T57 l0 x5_1).f0).toList = a1_0.toList then (if 0 ≤ (wrap64 (x5_1 + 1)) then (if (wrap64 (x5_1 + 1)) ≤ (l0.length : Int) then ((some (l0.drop ((wrap64 (x5_1 + 1)) : Int).toNat : List (S57))).bind fun y154 => (if y150.length + y154.length < 4398046511104 then (some (y150 ++ y154)) else (none))) else (none)) else (none)) else ((some (l0.drop (x5_1 : Int).toNat : List (S57))).bind fun y161 => (if y150.length + y161.length < 4398046511104 then (some (y150 ++ y161)) else (none)))) = some r := by first | (rw [hy150]; with_reducible exact H) | (have H2_ := (Option.bind_some _ _).symm.trans H; rw [hy150]; with_reducible exact H2_) | (have H2_ := (Option.bind_some _ _).symm.trans H; with_reducible exact H2_) | with_reducible exact H | (rw [hy150]; exact H) | exact H
 have Ny150 := Aside0.mk hy150
 clear hy150
 by_cases c12 : ((rd_T57 l0 x5_1).f0).toList = a1_0.toList
 rotate_left
 ·rw [if_neg c12] at H
  have c12b0 : (((rd_T57 l0 x5_1).f0).toList == a1_0.toList) = false := beq_eq_false_iff_ne.mpr c12
  have c12b1 : (((rd_T57 l0 x5_1).f0).toList != a1_0.toList) = true := bne_iff_ne.mpr c12
  have c25b0 := eq_true (of_decide_eq_true (by first | (with_reducible assumption) | assumption) : 0 ≤ x5_1)
  have c26b0 := eq_true (of_decide_eq_true (by first | (with_reducible assumption) | assumption) : x5_1 ≤ (l0.length : Int))
  obtain ⟨y161, hy161⟩ : ∃ y_ : List (S57), y_ = (l0.drop (x5_1 : Int).toNat) := ⟨_, rfl⟩
  replace H : (if y150.length + y161.length < 4398046511104 then (some (y150 ++ y161)) else (none)) = some r := by first | (rw [hy161]; with_reducible exact H) | (have H2_ := (Option.bind_some _ _).symm.trans H; rw [hy161]; with_reducible exact H2_) | (have H2_ := (Option.bind_some _ _).symm.trans H; with_reducible exact H2_) | with_reducible exact H | (rw [hy161]; exact H) | exact H
  have Ny161 := Aside0.mk hy161
  clear hy161
  by_cases c27 : y150.length + y161.length < 4398046511104
  rotate_left
  ·rw [if_neg c27] at H
   exact absurd H (by simp)
  rw [if_pos c27] at H
  have LMc27 := Aside0.mk c27
  clear c27
  obtain ⟨y165, hy165⟩ : ∃ y_ : List (S57), y_ = (y150 ++ y161) := ⟨_, rfl⟩
  replace H : (some y165) = some r := by first | (rw [hy165]; with_reducible exact H) | (have H2_ := (Option.bind_some _ _).symm.trans H; rw [hy165]; with_reducible exact H2_) | (have H2_ := (Option.bind_some _ _).symm.trans H; with_reducible exact H2_) | with_reducible exact H | (rw [hy165]; exact H) | exact H
  have Ny165 := Aside0.mk hy165
  clear hy165
  obtain rfl := Option.some.inj H
  have p142 : 0 ≤ (x5_1 : Int) := of_decide_eq_true (by first | (with_reducible assumption) | assumption)
  have q142 : x5_1 < (l0.length : Int) := of_decide_eq_true (by first | (with_reducible assumption) | assumption)
  obtain ⟨ad142, e142, hx142_0, hx142_1⟩ := at_T57 HR0.out x5_1 p142 q142
  cases e142
  replace hx142_0 := (HB.out.cell (World.block_lt_of_cell? w _ hx142_0)).trans hx142_0
  replace hx142_1 := (HB.out.cell (World.block_lt_of_cell? w _ hx142_1)).trans hx142_1
  replace p142 := eq_true p142
  replace q142 := eq_true q142
  have hcz28_0 : wr.cell? ⟨gb141, 0, none⟩ = some (.string a1_0) := bc_ BK141.out 0
  have hcz28_1 : wr.cell? ⟨gb141, 1, none⟩ = some (.string a1_1) := bc_ BK141.out 1
  have hfz28_0 := blk_frozen BK141.out 0
  have hfz28_1 := blk_frozen BK141.out 1
  have q29 : (x5_1 : Int) ≤ ((l0.length : Int) : Int) := of_decide_eq_true (by first | (with_reducible assumption) | assumption)
  obtain ⟨i029, hi029, _, hsz29, _⟩ := info_parts info57
  have hroom29 : l0.length ≤ c0 := HC0.out
  have hC29 : Kd.C k57 _ (some ad142) l0.length l0 := HR0.out
  have hcut29 := cut_to (P := Try.prog) 50 57 .i64 Try.underlying50 hi029 (some ad142) l0.length c0 x5_1 (of_decide_eq_true (by first | (with_reducible assumption) | assumption)) q29 hroom29
  have hr29 := Kd.C_take (m := (x5_1 : Int).toNat) hC29 (by omega)
  have hy29 : y143.length = (x5_1 : Int).toNat := (by rw [Ny143.out, List.length_take]; omega)
  rw [← Ny143.out] at hr29
  rw [← hy29] at hcut29
  have HR146 := Aside0.mk hr29
  have HC146 := Aside0.mk (show y143.length ≤ c0 from by omega)
  clear hr29 hC29 hroom29 hi029 hsz29
  have KY29 := Aside0.mk hy29
  clear hy29
  replace q29 := eq_true q29
  go_wp2_with (first | ((with_reducible refine gate_builtin (b := .append) (xs := #[.tmp 23, .tmp 26]) rfl ?_); at_builtin; refine Kd.R_append_rows k57 (w0 := w) w.heap.size rfl (.tmp 23) (.tmp 26) 50 57 (.agg #[(.string ⟨#[]⟩), (.string ⟨#[]⟩)]) 32 rfl Try.underlying50 info57 rfl (by decide) (by omega) (.slice none 0 0) ([] : List (S57)) y143 _ _ _ (fun k_ => k_ ≠ gb141) (fun _ => False) rfl rfl ?aO ?aR (fun _ _ h => h) (fun _ h => h.elim) ?aF ?aB ?aS ?aL ?_; (case aR => exact kc_ (Kd.C_below HR146.out HB.out)); (case aB => exact bl_); (case aF => exact (fun k_ hk => Kd.freshB (kb_ BK141.out) k_ hk)); (case aO => exact ((Kd.R_nil _ _ _ _ (fun k_ => k_ ≠ gb141)))); (case aS => exact bz_); (case aL => have := LMc10.out; omega); intro v148 w30 ho hb hg hat; rw [← Ny147.out] at ho; replace BK141 := Aside0.mk (blk_grown (kb_ BK141.out) hg (by simp [Value.ownBlock])); replace HB := Aside0.mk (hb); have HO149 := Aside0.mk (ho); clear ho hb hg hat; have hcz31_0 : w30.cell? ⟨gb141, 0, none⟩ = some (.string a1_0) := bc_ BK141.out 0; have hcz31_1 : w30.cell? ⟨gb141, 1, none⟩ = some (.string a1_1) := bc_ BK141.out 1; have hfz31_0 := blk_frozen BK141.out 0; have hfz31_1 := blk_frozen BK141.out 1) | ((with_reducible refine gate_builtin (b := .append) (xs := #[.tmp 28, .tmp 30]) rfl ?_); at_builtin; refine Kd.R_append k57 (w0 := w) w.heap.size rfl (.tmp 28) (.tmp 30) 50 57 (.agg #[(.string ⟨#[]⟩), (.string ⟨#[]⟩)]) 32 rfl Try.underlying50 info57 rfl (by decide) (by omega) v148 y147 (⟨a1_0, a1_1⟩ : S57) [.string a1_0, .string a1_1] (fun k_ => k_ ≠ gb141) (fun _ => False) rfl rfl ?aP (fun _ hk => hk.elim) ?aF ?aO ?aB ?aS ?aL ?_; (case aP => exact k57_mkM _ _ _ (⟨a1_0, a1_1⟩ : S57)); (case aB => exact bl_); (case aF => exact (fun k_ hk => Kd.freshB (kb_ BK141.out) k_ hk)); (case aO => exact (kr_ HO149.out)); (case aS => exact bz_); (case aL => have := LMc11.out; omega); intro v151 w32 ho hb hg hat; rw [← Ny150.out] at ho; replace BK141 := Aside0.mk (blk_grown (kb_ BK141.out) hg (Kd.R_away HO149.out (fun _ hk => hk))); replace HB := Aside0.mk (hb); have HO152 := Aside0.mk (ho); clear HO149 ho hb hg hat; have p153 : 0 ≤ (x5_1 : Int) := of_decide_eq_true (by first | (with_reducible assumption) | assumption); have q153 : x5_1 < (l0.length : Int) := of_decide_eq_true (by first | (with_reducible assumption) | assumption); obtain ⟨ad153, e153, hx153_0, hx153_1⟩ := at_T57 HR0.out x5_1 p153 q153; obtain rfl : ad142 = ad153 := (by injection e153); replace hx153_0 := (HB.out.cell (World.block_lt_of_cell? w _ hx153_0)).trans hx153_0; replace hx153_1 := (HB.out.cell (World.block_lt_of_cell? w _ hx153_1)).trans hx153_1; replace p153 := eq_true p153; replace q153 := eq_true q153; have hcz33_0 : w32.cell? ⟨gb141, 0, none⟩ = some (.string a1_0) := bc_ BK141.out 0; have hcz33_1 : w32.cell? ⟨gb141, 1, none⟩ = some (.string a1_1) := bc_ BK141.out 1; have hfz33_0 := blk_frozen BK141.out 0; have hfz33_1 := blk_frozen BK141.out 1; have q34 : (x5_1 : Int) ≤ ((l0.length : Int) : Int) := of_decide_eq_true (by first | (with_reducible assumption) | assumption); obtain ⟨i034, hi034, _, hsz34, _⟩ := info_parts info57; have hroom34 : l0.length ≤ c0 := HC0.out; have hC34 : Kd.C k57 _ (some ad142) l0.length l0 := HR0.out; have q034 : (0 : Int) ≤ (x5_1 : Int) := of_decide_eq_true (by first | (with_reducible assumption) | assumption); have hcut34 := cut_from (P := Try.prog) 50 57 .i64 Try.underlying50 hi034 2 hsz34 (some ad142) l0.length c0 x5_1 q034 q34; have hr34 := Kd.C_drop (m := (x5_1 : Int).toNat) (c := c0) hC34 (by omega) hroom34; obtain ⟨A34, hA34⟩ : ∃ A1, A1 = (if c0 = (x5_1 : Int).toNat then (some ad142) else ((some ad142) : Option Addr).map (·.add ((x5_1 : Int).toNat * 2))) := ⟨_, rfl⟩; obtain ⟨c34, hc34⟩ : ∃ c1, c1 = c0 - (x5_1 : Int).toNat := ⟨_, rfl⟩; have hy34 : y161.length = l0.length - (x5_1 : Int).toNat := (by rw [Ny161.out, List.length_drop] <;> omega); rw [show (l0).drop (x5_1 : Int).toNat = y161 from Ny161.out.symm] at hr34; replace hr34 : Kd.C k57 _ A34 y161.length y161 := (by rw [hA34]; exact hr34); rw [← hy34, ← hA34, ← hc34] at hcut34; have HR164 := Aside0.mk hr34; have HC164 := Aside0.mk (show y161.length ≤ c34 from by rw [hy34, hc34]; exact Nat.sub_le_sub_right hroom34 _); clear hr34 hC34 hroom34 hi034 hsz34 hc34; have KY34 := Aside0.mk hy34; have KA34 := Aside0.mk hA34; clear hy34 hA34; replace q34 := eq_true q34) | ((with_reducible refine gate_builtin (b := .append) (xs := #[.tmp 48, .tmp 51]) rfl ?_); at_builtin; refine Kd.R_append_rows k57 (w0 := w) w.heap.size rfl (.tmp 48) (.tmp 51) 50 57 (.agg #[(.string ⟨#[]⟩), (.string ⟨#[]⟩)]) 32 rfl Try.underlying50 info57 rfl (by decide) (by omega) v151 y150 y161 _ _ _ (fun k_ => k_ ≠ gb141) (fun _ => False) rfl rfl ?aO ?aR (fun _ _ h => h) (fun _ h => h.elim) ?aF ?aB ?aS ?aL ?_; (case aR => exact kc_ (Kd.C_below HR164.out HB.out)); (case aB => exact bl_); (case aF => exact (fun k_ hk => Kd.freshB (kb_ BK141.out) k_ hk)); (case aO => exact (kr_ HO152.out)); (case aS => exact bz_); (case aL => have := LMc27.out; omega); intro v166 w35 ho hb hg hat; rw [← Ny165.out] at ho; replace BK141 := Aside0.mk (blk_grown (kb_ BK141.out) hg (Kd.R_away HO152.out (fun _ hk => hk))); replace HB := Aside0.mk (hb); have HO167 := Aside0.mk (ho); clear HO152 ho hb hg hat))
  repeat (go_quiet (first | ((with_reducible refine gate_builtin (b := .append) (xs := #[.tmp 23, .tmp 26]) rfl ?_); at_builtin; refine Kd.R_append_rows k57 (w0 := w) w.heap.size rfl (.tmp 23) (.tmp 26) 50 57 (.agg #[(.string ⟨#[]⟩), (.string ⟨#[]⟩)]) 32 rfl Try.underlying50 info57 rfl (by decide) (by omega) (.slice none 0 0) ([] : List (S57)) y143 _ _ _ (fun k_ => k_ ≠ gb141) (fun _ => False) rfl rfl ?aO ?aR (fun _ _ h => h) (fun _ h => h.elim) ?aF ?aB ?aS ?aL ?_; (case aR => exact kc_ (Kd.C_below HR146.out HB.out)); (case aB => exact bl_); (case aF => exact (fun k_ hk => Kd.freshB (kb_ BK141.out) k_ hk)); (case aO => exact ((Kd.R_nil _ _ _ _ (fun k_ => k_ ≠ gb141)))); (case aS => exact bz_); (case aL => have := LMc10.out; omega); intro v148 w30 ho hb hg hat; rw [← Ny147.out] at ho; replace BK141 := Aside0.mk (blk_grown (kb_ BK141.out) hg (by simp [Value.ownBlock])); replace HB := Aside0.mk (hb); have HO149 := Aside0.mk (ho); clear ho hb hg hat; have hcz31_0 : w30.cell? ⟨gb141, 0, none⟩ = some (.string a1_0) := bc_ BK141.out 0; have hcz31_1 : w30.cell? ⟨gb141, 1, none⟩ = some (.string a1_1) := bc_ BK141.out 1; have hfz31_0 := blk_frozen BK141.out 0; have hfz31_1 := blk_frozen BK141.out 1) | ((with_reducible refine gate_builtin (b := .append) (xs := #[.tmp 28, .tmp 30]) rfl ?_); at_builtin; refine Kd.R_append k57 (w0 := w) w.heap.size rfl (.tmp 28) (.tmp 30) 50 57 (.agg #[(.string ⟨#[]⟩), (.string ⟨#[]⟩)]) 32 rfl Try.underlying50 info57 rfl (by decide) (by omega) v148 y147 (⟨a1_0, a1_1⟩ : S57) [.string a1_0, .string a1_1] (fun k_ => k_ ≠ gb141) (fun _ => False) rfl rfl ?aP (fun _ hk => hk.elim) ?aF ?aO ?aB ?aS ?aL ?_; (case aP => exact k57_mkM _ _ _ (⟨a1_0, a1_1⟩ : S57)); (case aB => exact bl_); (case aF => exact (fun k_ hk => Kd.freshB (kb_ BK141.out) k_ hk)); (case aO => exact (kr_ HO149.out)); (case aS => exact bz_); (case aL => have := LMc11.out; omega); intro v151 w32 ho hb hg hat; rw [← Ny150.out] at ho; replace BK141 := Aside0.mk (blk_grown (kb_ BK141.out) hg (Kd.R_away HO149.out (fun _ hk => hk))); replace HB := Aside0.mk (hb); have HO152 := Aside0.mk (ho); clear HO149 ho hb hg hat; have p153 : 0 ≤ (x5_1 : Int) := of_decide_eq_true (by first | (with_reducible assumption) | assumption); have q153 : x5_1 < (l0.length : Int) := of_decide_eq_true (by first | (with_reducible assumption) | assumption); obtain ⟨ad153, e153, hx153_0, hx153_1⟩ := at_T57 HR0.out x5_1 p153 q153; obtain rfl : ad142 = ad153 := (by injection e153); replace hx153_0 := (HB.out.cell (World.block_lt_of_cell? w _ hx153_0)).trans hx153_0; replace hx153_1 := (HB.out.cell (World.block_lt_of_cell? w _ hx153_1)).trans hx153_1; replace p153 := eq_true p153; replace q153 := eq_true q153; have hcz33_0 : w32.cell? ⟨gb141, 0, none⟩ = some (.string a1_0) := bc_ BK141.out 0; have hcz33_1 : w32.cell? ⟨gb141, 1, none⟩ = some (.string a1_1) := bc_ BK141.out 1; have hfz33_0 := blk_frozen BK141.out 0; have hfz33_1 := blk_frozen BK141.out 1; have q34 : (x5_1 : Int) ≤ ((l0.length : Int) : Int) := of_decide_eq_true (by first | (with_reducible assumption) | assumption); obtain ⟨i034, hi034, _, hsz34, _⟩ := info_parts info57; have hroom34 : l0.length ≤ c0 := HC0.out; have hC34 : Kd.C k57 _ (some ad142) l0.length l0 := HR0.out; have q034 : (0 : Int) ≤ (x5_1 : Int) := of_decide_eq_true (by first | (with_reducible assumption) | assumption); have hcut34 := cut_from (P := Try.prog) 50 57 .i64 Try.underlying50 hi034 2 hsz34 (some ad142) l0.length c0 x5_1 q034 q34; have hr34 := Kd.C_drop (m := (x5_1 : Int).toNat) (c := c0) hC34 (by omega) hroom34; obtain ⟨A34, hA34⟩ : ∃ A1, A1 = (if c0 = (x5_1 : Int).toNat then (some ad142) else ((some ad142) : Option Addr).map (·.add ((x5_1 : Int).toNat * 2))) := ⟨_, rfl⟩; obtain ⟨c34, hc34⟩ : ∃ c1, c1 = c0 - (x5_1 : Int).toNat := ⟨_, rfl⟩; have hy34 : y161.length = l0.length - (x5_1 : Int).toNat := (by rw [Ny161.out, List.length_drop] <;> omega); rw [show (l0).drop (x5_1 : Int).toNat = y161 from Ny161.out.symm] at hr34; replace hr34 : Kd.C k57 _ A34 y161.length y161 := (by rw [hA34]; exact hr34); rw [← hy34, ← hA34, ← hc34] at hcut34; have HR164 := Aside0.mk hr34; have HC164 := Aside0.mk (show y161.length ≤ c34 from by rw [hy34, hc34]; exact Nat.sub_le_sub_right hroom34 _); clear hr34 hC34 hroom34 hi034 hsz34 hc34; have KY34 := Aside0.mk hy34; have KA34 := Aside0.mk hA34; clear hy34 hA34; replace q34 := eq_true q34) | ((with_reducible refine gate_builtin (b := .append) (xs := #[.tmp 48, .tmp 51]) rfl ?_); at_builtin; refine Kd.R_append_rows k57 (w0 := w) w.heap.size rfl (.tmp 48) (.tmp 51) 50 57 (.agg #[(.string ⟨#[]⟩), (.string ⟨#[]⟩)]) 32 rfl Try.underlying50 info57 rfl (by decide) (by omega) v151 y150 y161 _ _ _ (fun k_ => k_ ≠ gb141) (fun _ => False) rfl rfl ?aO ?aR (fun _ _ h => h) (fun _ h => h.elim) ?aF ?aB ?aS ?aL ?_; (case aR => exact kc_ (Kd.C_below HR164.out HB.out)); (case aB => exact bl_); (case aF => exact (fun k_ hk => Kd.freshB (kb_ BK141.out) k_ hk)); (case aO => exact (kr_ HO152.out)); (case aS => exact bz_); (case aL => have := LMc27.out; omega); intro v166 w35 ho hb hg hat; rw [← Ny165.out] at ho; replace BK141 := Aside0.mk (blk_grown (kb_ BK141.out) hg (Kd.R_away HO152.out (fun _ hk => hk))); replace HB := Aside0.mk (hb); have HO167 := Aside0.mk (ho); clear HO152 ho hb hg hat)); try go_wp2_with (first | ((with_reducible refine gate_builtin (b := .append) (xs := #[.tmp 23, .tmp 26]) rfl ?_); at_builtin; refine Kd.R_append_rows k57 (w0 := w) w.heap.size rfl (.tmp 23) (.tmp 26) 50 57 (.agg #[(.string ⟨#[]⟩), (.string ⟨#[]⟩)]) 32 rfl Try.underlying50 info57 rfl (by decide) (by omega) (.slice none 0 0) ([] : List (S57)) y143 _ _ _ (fun k_ => k_ ≠ gb141) (fun _ => False) rfl rfl ?aO ?aR (fun _ _ h => h) (fun _ h => h.elim) ?aF ?aB ?aS ?aL ?_; (case aR => exact kc_ (Kd.C_below HR146.out HB.out)); (case aB => exact bl_); (case aF => exact (fun k_ hk => Kd.freshB (kb_ BK141.out) k_ hk)); (case aO => exact ((Kd.R_nil _ _ _ _ (fun k_ => k_ ≠ gb141)))); (case aS => exact bz_); (case aL => have := LMc10.out; omega); intro v148 w30 ho hb hg hat; rw [← Ny147.out] at ho; replace BK141 := Aside0.mk (blk_grown (kb_ BK141.out) hg (by simp [Value.ownBlock])); replace HB := Aside0.mk (hb); have HO149 := Aside0.mk (ho); clear ho hb hg hat; have hcz31_0 : w30.cell? ⟨gb141, 0, none⟩ = some (.string a1_0) := bc_ BK141.out 0; have hcz31_1 : w30.cell? ⟨gb141, 1, none⟩ = some (.string a1_1) := bc_ BK141.out 1; have hfz31_0 := blk_frozen BK141.out 0; have hfz31_1 := blk_frozen BK141.out 1) | ((with_reducible refine gate_builtin (b := .append) (xs := #[.tmp 28, .tmp 30]) rfl ?_); at_builtin; refine Kd.R_append k57 (w0 := w) w.heap.size rfl (.tmp 28) (.tmp 30) 50 57 (.agg #[(.string ⟨#[]⟩), (.string ⟨#[]⟩)]) 32 rfl Try.underlying50 info57 rfl (by decide) (by omega) v148 y147 (⟨a1_0, a1_1⟩ : S57) [.string a1_0, .string a1_1] (fun k_ => k_ ≠ gb141) (fun _ => False) rfl rfl ?aP (fun _ hk => hk.elim) ?aF ?aO ?aB ?aS ?aL ?_; (case aP => exact k57_mkM _ _ _ (⟨a1_0, a1_1⟩ : S57)); (case aB => exact bl_); (case aF => exact (fun k_ hk => Kd.freshB (kb_ BK141.out) k_ hk)); (case aO => exact (kr_ HO149.out)); (case aS => exact bz_); (case aL => have := LMc11.out; omega); intro v151 w32 ho hb hg hat; rw [← Ny150.out] at ho; replace BK141 := Aside0.mk (blk_grown (kb_ BK141.out) hg (Kd.R_away HO149.out (fun _ hk => hk))); replace HB := Aside0.mk (hb); have HO152 := Aside0.mk (ho); clear HO149 ho hb hg hat; have p153 : 0 ≤ (x5_1 : Int) := of_decide_eq_true (by first | (with_reducible assumption) | assumption); have q153 : x5_1 < (l0.length : Int) := of_decide_eq_true (by first | (with_reducible assumption) | assumption); obtain ⟨ad153, e153, hx153_0, hx153_1⟩ := at_T57 HR0.out x5_1 p153 q153; obtain rfl : ad142 = ad153 := (by injection e153); replace hx153_0 := (HB.out.cell (World.block_lt_of_cell? w _ hx153_0)).trans hx153_0; replace hx153_1 := (HB.out.cell (World.block_lt_of_cell? w _ hx153_1)).trans hx153_1; replace p153 := eq_true p153; replace q153 := eq_true q153; have hcz33_0 : w32.cell? ⟨gb141, 0, none⟩ = some (.string a1_0) := bc_ BK141.out 0; have hcz33_1 : w32.cell? ⟨gb141, 1, none⟩ = some (.string a1_1) := bc_ BK141.out 1; have hfz33_0 := blk_frozen BK141.out 0; have hfz33_1 := blk_frozen BK141.out 1; have q34 : (x5_1 : Int) ≤ ((l0.length : Int) : Int) := of_decide_eq_true (by first | (with_reducible assumption) | assumption); obtain ⟨i034, hi034, _, hsz34, _⟩ := info_parts info57; have hroom34 : l0.length ≤ c0 := HC0.out; have hC34 : Kd.C k57 _ (some ad142) l0.length l0 := HR0.out; have q034 : (0 : Int) ≤ (x5_1 : Int) := of_decide_eq_true (by first | (with_reducible assumption) | assumption); have hcut34 := cut_from (P := Try.prog) 50 57 .i64 Try.underlying50 hi034 2 hsz34 (some ad142) l0.length c0 x5_1 q034 q34; have hr34 := Kd.C_drop (m := (x5_1 : Int).toNat) (c := c0) hC34 (by omega) hroom34; obtain ⟨A34, hA34⟩ : ∃ A1, A1 = (if c0 = (x5_1 : Int).toNat then (some ad142) else ((some ad142) : Option Addr).map (·.add ((x5_1 : Int).toNat * 2))) := ⟨_, rfl⟩; obtain ⟨c34, hc34⟩ : ∃ c1, c1 = c0 - (x5_1 : Int).toNat := ⟨_, rfl⟩; have hy34 : y161.length = l0.length - (x5_1 : Int).toNat := (by rw [Ny161.out, List.length_drop] <;> omega); rw [show (l0).drop (x5_1 : Int).toNat = y161 from Ny161.out.symm] at hr34; replace hr34 : Kd.C k57 _ A34 y161.length y161 := (by rw [hA34]; exact hr34); rw [← hy34, ← hA34, ← hc34] at hcut34; have HR164 := Aside0.mk hr34; have HC164 := Aside0.mk (show y161.length ≤ c34 from by rw [hy34, hc34]; exact Nat.sub_le_sub_right hroom34 _); clear hr34 hC34 hroom34 hi034 hsz34 hc34; have KY34 := Aside0.mk hy34; have KA34 := Aside0.mk hA34; clear hy34 hA34; replace q34 := eq_true q34) | ((with_reducible refine gate_builtin (b := .append) (xs := #[.tmp 48, .tmp 51]) rfl ?_); at_builtin; refine Kd.R_append_rows k57 (w0 := w) w.heap.size rfl (.tmp 48) (.tmp 51) 50 57 (.agg #[(.string ⟨#[]⟩), (.string ⟨#[]⟩)]) 32 rfl Try.underlying50 info57 rfl (by decide) (by omega) v151 y150 y161 _ _ _ (fun k_ => k_ ≠ gb141) (fun _ => False) rfl rfl ?aO ?aR (fun _ _ h => h) (fun _ h => h.elim) ?aF ?aB ?aS ?aL ?_; (case aR => exact kc_ (Kd.C_below HR164.out HB.out)); (case aB => exact bl_); (case aF => exact (fun k_ hk => Kd.freshB (kb_ BK141.out) k_ hk)); (case aO => exact (kr_ HO152.out)); (case aS => exact bz_); (case aL => have := LMc27.out; omega); intro v166 w35 ho hb hg hat; rw [← Ny165.out] at ho; replace BK141 := Aside0.mk (blk_grown (kb_ BK141.out) hg (Kd.R_away HO152.out (fun _ hk => hk))); replace HB := Aside0.mk (hb); have HO167 := Aside0.mk (ho); clear HO152 ho hb hg hat)))
  go_ret
  exact ⟨_, ng_, by exact kr_ (Kd.R_mono HO167.out (fun _ hk => trivial)), bl_⟩
 rw [if_pos c12] at H
 have c12b0 : (((rd_T57 l0 x5_1).f0).toList == a1_0.toList) = true := beq_iff_eq.mpr c12
 have c12b1 : (((rd_T57 l0 x5_1).f0).toList != a1_0.toList) = false := bne_eq_false_iff_eq.mpr c12
 clear c12
 obtain ⟨ji13, hji13⟩ : ∃ j_ : Int, (wrap64 (x5_1 + 1)) = j_ := ⟨_, rfl⟩
 replace H : (if 0 ≤ (ji13) then (if (ji13) ≤ (l0.length : Int) then ((some (l0.drop ((ji13) : Int).toNat : List (S57))).bind fun y154 => (if y150.length + y154.length < 4398046511104 then (some (y150 ++ y154)) else (none))) else (none)) else (none)) = some r := by first | (rw [hji13] at H; exact H) | (simp only [hji13] at H ⊢; exact H)
 have hji13w : (IntKind.i64.wrap (x5_1 + 1)) = ji13 := (i64_w _).trans hji13
 by_cases c14 : 0 ≤ (ji13)
 rotate_left
 ·rw [if_neg c14] at H
  exact absurd H (by simp)
 rw [if_pos c14] at H
 have c14b0 := eq_true c14
 have c14b1 : decide (0 ≤ (ji13)) = true := decide_eq_true c14
 clear c14
 by_cases c15 : (ji13) ≤ (l0.length : Int)
 rotate_left
 ·rw [if_neg c15] at H
  exact absurd H (by simp)
 rw [if_pos c15] at H
 have c15b0 := eq_true c15
 have c15b1 : decide ((ji13) ≤ (l0.length : Int)) = true := decide_eq_true c15
 clear c15
 obtain ⟨y154, hy154⟩ : ∃ y_ : List (S57), y_ = (l0.drop ((ji13) : Int).toNat) := ⟨_, rfl⟩
 replace H : (if y150.length + y154.length < 4398046511104 then (some (y150 ++ y154)) else (none)) = some r := by first | (rw [hy154]; with_reducible exact H) | (have H2_ := (Option.bind_some _ _).symm.trans H; rw [hy154]; with_reducible exact H2_) | (have H2_ := (Option.bind_some _ _).symm.trans H; with_reducible exact H2_) | with_reducible exact H | (rw [hy154]; exact H) | exact H
 have Ny154 := Aside0.mk hy154
 clear hy154
 by_cases c16 : y150.length + y154.length < 4398046511104
 rotate_left
 ·rw [if_neg c16] at H
  exact absurd H (by simp)
 rw [if_pos c16] at H
 have LMc16 := Aside0.mk c16
 clear c16
 obtain ⟨y158, hy158⟩ : ∃ y_ : List (S57), y_ = (y150 ++ y154) := ⟨_, rfl⟩
 replace H : (some y158) = some r := by first | (rw [hy158]; with_reducible exact H) | (have H2_ := (Option.bind_some _ _).symm.trans H; rw [hy158]; with_reducible exact H2_) | (have H2_ := (Option.bind_some _ _).symm.trans H; with_reducible exact H2_) | with_reducible exact H | (rw [hy158]; exact H) | exact H
 have Ny158 := Aside0.mk hy158
 clear hy158
 obtain rfl := Option.some.inj H
 have p142 : 0 ≤ (x5_1 : Int) := of_decide_eq_true (by first | (with_reducible assumption) | assumption)
 have q142 : x5_1 < (l0.length : Int) := of_decide_eq_true (by first | (with_reducible assumption) | assumption)
 obtain ⟨ad142, e142, hx142_0, hx142_1⟩ := at_T57 HR0.out x5_1 p142 q142
 cases e142
 replace hx142_0 := (HB.out.cell (World.block_lt_of_cell? w _ hx142_0)).trans hx142_0
 replace hx142_1 := (HB.out.cell (World.block_lt_of_cell? w _ hx142_1)).trans hx142_1
 replace p142 := eq_true p142
 replace q142 := eq_true q142
 have hcz17_0 : wr.cell? ⟨gb141, 0, none⟩ = some (.string a1_0) := bc_ BK141.out 0
 have hcz17_1 : wr.cell? ⟨gb141, 1, none⟩ = some (.string a1_1) := bc_ BK141.out 1
 have hfz17_0 := blk_frozen BK141.out 0
 have hfz17_1 := blk_frozen BK141.out 1
 have q18 : (x5_1 : Int) ≤ ((l0.length : Int) : Int) := of_decide_eq_true (by first | (with_reducible assumption) | assumption)
 obtain ⟨i018, hi018, _, hsz18, _⟩ := info_parts info57
 have hroom18 : l0.length ≤ c0 := HC0.out
 have hC18 : Kd.C k57 _ (some ad142) l0.length l0 := HR0.out
 have hcut18 := cut_to (P := Try.prog) 50 57 .i64 Try.underlying50 hi018 (some ad142) l0.length c0 x5_1 (of_decide_eq_true (by first | (with_reducible assumption) | assumption)) q18 hroom18
 have hr18 := Kd.C_take (m := (x5_1 : Int).toNat) hC18 (by omega)
 have hy18 : y143.length = (x5_1 : Int).toNat := (by rw [Ny143.out, List.length_take]; omega)
 rw [← Ny143.out] at hr18
 rw [← hy18] at hcut18
 have HR146 := Aside0.mk hr18
 have HC146 := Aside0.mk (show y143.length ≤ c0 from by omega)
 clear hr18 hC18 hroom18 hi018 hsz18
 have KY18 := Aside0.mk hy18
 clear hy18
 replace q18 := eq_true q18
 go_wp2_with (first | ((with_reducible refine gate_builtin (b := .append) (xs := #[.tmp 23, .tmp 26]) rfl ?_); at_builtin; refine Kd.R_append_rows k57 (w0 := w) w.heap.size rfl (.tmp 23) (.tmp 26) 50 57 (.agg #[(.string ⟨#[]⟩), (.string ⟨#[]⟩)]) 32 rfl Try.underlying50 info57 rfl (by decide) (by omega) (.slice none 0 0) ([] : List (S57)) y143 _ _ _ (fun k_ => k_ ≠ gb141) (fun _ => False) rfl rfl ?aO ?aR (fun _ _ h => h) (fun _ h => h.elim) ?aF ?aB ?aS ?aL ?_; (case aR => exact kc_ (Kd.C_below HR146.out HB.out)); (case aB => exact bl_); (case aF => exact (fun k_ hk => Kd.freshB (kb_ BK141.out) k_ hk)); (case aO => exact ((Kd.R_nil _ _ _ _ (fun k_ => k_ ≠ gb141)))); (case aS => exact bz_); (case aL => have := LMc10.out; omega); intro v148 w19 ho hb hg hat; rw [← Ny147.out] at ho; replace BK141 := Aside0.mk (blk_grown (kb_ BK141.out) hg (by simp [Value.ownBlock])); replace HB := Aside0.mk (hb); have HO149 := Aside0.mk (ho); clear ho hb hg hat; have hcz20_0 : w19.cell? ⟨gb141, 0, none⟩ = some (.string a1_0) := bc_ BK141.out 0; have hcz20_1 : w19.cell? ⟨gb141, 1, none⟩ = some (.string a1_1) := bc_ BK141.out 1; have hfz20_0 := blk_frozen BK141.out 0; have hfz20_1 := blk_frozen BK141.out 1) | ((with_reducible refine gate_builtin (b := .append) (xs := #[.tmp 28, .tmp 30]) rfl ?_); at_builtin; refine Kd.R_append k57 (w0 := w) w.heap.size rfl (.tmp 28) (.tmp 30) 50 57 (.agg #[(.string ⟨#[]⟩), (.string ⟨#[]⟩)]) 32 rfl Try.underlying50 info57 rfl (by decide) (by omega) v148 y147 (⟨a1_0, a1_1⟩ : S57) [.string a1_0, .string a1_1] (fun k_ => k_ ≠ gb141) (fun _ => False) rfl rfl ?aP (fun _ hk => hk.elim) ?aF ?aO ?aB ?aS ?aL ?_; (case aP => exact k57_mkM _ _ _ (⟨a1_0, a1_1⟩ : S57)); (case aB => exact bl_); (case aF => exact (fun k_ hk => Kd.freshB (kb_ BK141.out) k_ hk)); (case aO => exact (kr_ HO149.out)); (case aS => exact bz_); (case aL => have := LMc11.out; omega); intro v151 w21 ho hb hg hat; rw [← Ny150.out] at ho; replace BK141 := Aside0.mk (blk_grown (kb_ BK141.out) hg (Kd.R_away HO149.out (fun _ hk => hk))); replace HB := Aside0.mk (hb); have HO152 := Aside0.mk (ho); clear HO149 ho hb hg hat; have p153 : 0 ≤ (x5_1 : Int) := of_decide_eq_true (by first | (with_reducible assumption) | assumption); have q153 : x5_1 < (l0.length : Int) := of_decide_eq_true (by first | (with_reducible assumption) | assumption); obtain ⟨ad153, e153, hx153_0, hx153_1⟩ := at_T57 HR0.out x5_1 p153 q153; obtain rfl : ad142 = ad153 := (by injection e153); replace hx153_0 := (HB.out.cell (World.block_lt_of_cell? w _ hx153_0)).trans hx153_0; replace hx153_1 := (HB.out.cell (World.block_lt_of_cell? w _ hx153_1)).trans hx153_1; replace p153 := eq_true p153; replace q153 := eq_true q153; have hcz22_0 : w21.cell? ⟨gb141, 0, none⟩ = some (.string a1_0) := bc_ BK141.out 0; have hcz22_1 : w21.cell? ⟨gb141, 1, none⟩ = some (.string a1_1) := bc_ BK141.out 1; have hfz22_0 := blk_frozen BK141.out 0; have hfz22_1 := blk_frozen BK141.out 1; have q23 : ((ji13) : Int) ≤ ((l0.length : Int) : Int) := of_decide_eq_true (by first | (with_reducible assumption) | assumption); obtain ⟨i023, hi023, _, hsz23, _⟩ := info_parts info57; have hroom23 : l0.length ≤ c0 := HC0.out; have hC23 : Kd.C k57 _ (some ad142) l0.length l0 := HR0.out; have q023 : (0 : Int) ≤ ((ji13) : Int) := of_decide_eq_true (by first | (with_reducible assumption) | assumption); have hcut23 := cut_from (P := Try.prog) 50 57 .i64 Try.underlying50 hi023 2 hsz23 (some ad142) l0.length c0 (ji13) q023 q23; have hr23 := Kd.C_drop (m := ((ji13) : Int).toNat) (c := c0) hC23 (by omega) hroom23; obtain ⟨A23, hA23⟩ : ∃ A1, A1 = (if c0 = ((ji13) : Int).toNat then (some ad142) else ((some ad142) : Option Addr).map (·.add (((ji13) : Int).toNat * 2))) := ⟨_, rfl⟩; obtain ⟨c23, hc23⟩ : ∃ c1, c1 = c0 - ((ji13) : Int).toNat := ⟨_, rfl⟩; have hy23 : y154.length = l0.length - ((ji13) : Int).toNat := (by rw [Ny154.out, List.length_drop] <;> omega); rw [show (l0).drop ((ji13) : Int).toNat = y154 from Ny154.out.symm] at hr23; replace hr23 : Kd.C k57 _ A23 y154.length y154 := (by rw [hA23]; exact hr23); rw [← hy23, ← hA23, ← hc23] at hcut23; have HR157 := Aside0.mk hr23; have HC157 := Aside0.mk (show y154.length ≤ c23 from by rw [hy23, hc23]; exact Nat.sub_le_sub_right hroom23 _); clear hr23 hC23 hroom23 hi023 hsz23 hc23; have KY23 := Aside0.mk hy23; have KA23 := Aside0.mk hA23; clear hy23 hA23; replace q23 := eq_true q23) | ((with_reducible refine gate_builtin (b := .append) (xs := #[.tmp 48, .tmp 51]) rfl ?_); at_builtin; refine Kd.R_append_rows k57 (w0 := w) w.heap.size rfl (.tmp 48) (.tmp 51) 50 57 (.agg #[(.string ⟨#[]⟩), (.string ⟨#[]⟩)]) 32 rfl Try.underlying50 info57 rfl (by decide) (by omega) v151 y150 y154 _ _ _ (fun k_ => k_ ≠ gb141) (fun _ => False) rfl rfl ?aO ?aR (fun _ _ h => h) (fun _ h => h.elim) ?aF ?aB ?aS ?aL ?_; (case aR => exact kc_ (Kd.C_below HR157.out HB.out)); (case aB => exact bl_); (case aF => exact (fun k_ hk => Kd.freshB (kb_ BK141.out) k_ hk)); (case aO => exact (kr_ HO152.out)); (case aS => exact bz_); (case aL => have := LMc16.out; omega); intro v159 w24 ho hb hg hat; rw [← Ny158.out] at ho; replace BK141 := Aside0.mk (blk_grown (kb_ BK141.out) hg (Kd.R_away HO152.out (fun _ hk => hk))); replace HB := Aside0.mk (hb); have HO160 := Aside0.mk (ho); clear HO152 ho hb hg hat))
 repeat (go_quiet (first | ((with_reducible refine gate_builtin (b := .append) (xs := #[.tmp 23, .tmp 26]) rfl ?_); at_builtin; refine Kd.R_append_rows k57 (w0 := w) w.heap.size rfl (.tmp 23) (.tmp 26) 50 57 (.agg #[(.string ⟨#[]⟩), (.string ⟨#[]⟩)]) 32 rfl Try.underlying50 info57 rfl (by decide) (by omega) (.slice none 0 0) ([] : List (S57)) y143 _ _ _ (fun k_ => k_ ≠ gb141) (fun _ => False) rfl rfl ?aO ?aR (fun _ _ h => h) (fun _ h => h.elim) ?aF ?aB ?aS ?aL ?_; (case aR => exact kc_ (Kd.C_below HR146.out HB.out)); (case aB => exact bl_); (case aF => exact (fun k_ hk => Kd.freshB (kb_ BK141.out) k_ hk)); (case aO => exact ((Kd.R_nil _ _ _ _ (fun k_ => k_ ≠ gb141)))); (case aS => exact bz_); (case aL => have := LMc10.out; omega); intro v148 w19 ho hb hg hat; rw [← Ny147.out] at ho; replace BK141 := Aside0.mk (blk_grown (kb_ BK141.out) hg (by simp [Value.ownBlock])); replace HB := Aside0.mk (hb); have HO149 := Aside0.mk (ho); clear ho hb hg hat; have hcz20_0 : w19.cell? ⟨gb141, 0, none⟩ = some (.string a1_0) := bc_ BK141.out 0; have hcz20_1 : w19.cell? ⟨gb141, 1, none⟩ = some (.string a1_1) := bc_ BK141.out 1; have hfz20_0 := blk_frozen BK141.out 0; have hfz20_1 := blk_frozen BK141.out 1) | ((with_reducible refine gate_builtin (b := .append) (xs := #[.tmp 28, .tmp 30]) rfl ?_); at_builtin; refine Kd.R_append k57 (w0 := w) w.heap.size rfl (.tmp 28) (.tmp 30) 50 57 (.agg #[(.string ⟨#[]⟩), (.string ⟨#[]⟩)]) 32 rfl Try.underlying50 info57 rfl (by decide) (by omega) v148 y147 (⟨a1_0, a1_1⟩ : S57) [.string a1_0, .string a1_1] (fun k_ => k_ ≠ gb141) (fun _ => False) rfl rfl ?aP (fun _ hk => hk.elim) ?aF ?aO ?aB ?aS ?aL ?_; (case aP => exact k57_mkM _ _ _ (⟨a1_0, a1_1⟩ : S57)); (case aB => exact bl_); (case aF => exact (fun k_ hk => Kd.freshB (kb_ BK141.out) k_ hk)); (case aO => exact (kr_ HO149.out)); (case aS => exact bz_); (case aL => have := LMc11.out; omega); intro v151 w21 ho hb hg hat; rw [← Ny150.out] at ho; replace BK141 := Aside0.mk (blk_grown (kb_ BK141.out) hg (Kd.R_away HO149.out (fun _ hk => hk))); replace HB := Aside0.mk (hb); have HO152 := Aside0.mk (ho); clear HO149 ho hb hg hat; have p153 : 0 ≤ (x5_1 : Int) := of_decide_eq_true (by first | (with_reducible assumption) | assumption); have q153 : x5_1 < (l0.length : Int) := of_decide_eq_true (by first | (with_reducible assumption) | assumption); obtain ⟨ad153, e153, hx153_0, hx153_1⟩ := at_T57 HR0.out x5_1 p153 q153; obtain rfl : ad142 = ad153 := (by injection e153); replace hx153_0 := (HB.out.cell (World.block_lt_of_cell? w _ hx153_0)).trans hx153_0; replace hx153_1 := (HB.out.cell (World.block_lt_of_cell? w _ hx153_1)).trans hx153_1; replace p153 := eq_true p153; replace q153 := eq_true q153; have hcz22_0 : w21.cell? ⟨gb141, 0, none⟩ = some (.string a1_0) := bc_ BK141.out 0; have hcz22_1 : w21.cell? ⟨gb141, 1, none⟩ = some (.string a1_1) := bc_ BK141.out 1; have hfz22_0 := blk_frozen BK141.out 0; have hfz22_1 := blk_frozen BK141.out 1; have q23 : ((ji13) : Int) ≤ ((l0.length : Int) : Int) := of_decide_eq_true (by first | (with_reducible assumption) | assumption); obtain ⟨i023, hi023, _, hsz23, _⟩ := info_parts info57; have hroom23 : l0.length ≤ c0 := HC0.out; have hC23 : Kd.C k57 _ (some ad142) l0.length l0 := HR0.out; have q023 : (0 : Int) ≤ ((ji13) : Int) := of_decide_eq_true (by first | (with_reducible assumption) | assumption); have hcut23 := cut_from (P := Try.prog) 50 57 .i64 Try.underlying50 hi023 2 hsz23 (some ad142) l0.length c0 (ji13) q023 q23; have hr23 := Kd.C_drop (m := ((ji13) : Int).toNat) (c := c0) hC23 (by omega) hroom23; obtain ⟨A23, hA23⟩ : ∃ A1, A1 = (if c0 = ((ji13) : Int).toNat then (some ad142) else ((some ad142) : Option Addr).map (·.add (((ji13) : Int).toNat * 2))) := ⟨_, rfl⟩; obtain ⟨c23, hc23⟩ : ∃ c1, c1 = c0 - ((ji13) : Int).toNat := ⟨_, rfl⟩; have hy23 : y154.length = l0.length - ((ji13) : Int).toNat := (by rw [Ny154.out, List.length_drop] <;> omega); rw [show (l0).drop ((ji13) : Int).toNat = y154 from Ny154.out.symm] at hr23; replace hr23 : Kd.C k57 _ A23 y154.length y154 := (by rw [hA23]; exact hr23); rw [← hy23, ← hA23, ← hc23] at hcut23; have HR157 := Aside0.mk hr23; have HC157 := Aside0.mk (show y154.length ≤ c23 from by rw [hy23, hc23]; exact Nat.sub_le_sub_right hroom23 _); clear hr23 hC23 hroom23 hi023 hsz23 hc23; have KY23 := Aside0.mk hy23; have KA23 := Aside0.mk hA23; clear hy23 hA23; replace q23 := eq_true q23) | ((with_reducible refine gate_builtin (b := .append) (xs := #[.tmp 48, .tmp 51]) rfl ?_); at_builtin; refine Kd.R_append_rows k57 (w0 := w) w.heap.size rfl (.tmp 48) (.tmp 51) 50 57 (.agg #[(.string ⟨#[]⟩), (.string ⟨#[]⟩)]) 32 rfl Try.underlying50 info57 rfl (by decide) (by omega) v151 y150 y154 _ _ _ (fun k_ => k_ ≠ gb141) (fun _ => False) rfl rfl ?aO ?aR (fun _ _ h => h) (fun _ h => h.elim) ?aF ?aB ?aS ?aL ?_; (case aR => exact kc_ (Kd.C_below HR157.out HB.out)); (case aB => exact bl_); (case aF => exact (fun k_ hk => Kd.freshB (kb_ BK141.out) k_ hk)); (case aO => exact (kr_ HO152.out)); (case aS => exact bz_); (case aL => have := LMc16.out; omega); intro v159 w24 ho hb hg hat; rw [← Ny158.out] at ho; replace BK141 := Aside0.mk (blk_grown (kb_ BK141.out) hg (Kd.R_away HO152.out (fun _ hk => hk))); replace HB := Aside0.mk (hb); have HO160 := Aside0.mk (ho); clear HO152 ho hb hg hat)); try go_wp2_with (first | ((with_reducible refine gate_builtin (b := .append) (xs := #[.tmp 23, .tmp 26]) rfl ?_); at_builtin; refine Kd.R_append_rows k57 (w0 := w) w.heap.size rfl (.tmp 23) (.tmp 26) 50 57 (.agg #[(.string ⟨#[]⟩), (.string ⟨#[]⟩)]) 32 rfl Try.underlying50 info57 rfl (by decide) (by omega) (.slice none 0 0) ([] : List (S57)) y143 _ _ _ (fun k_ => k_ ≠ gb141) (fun _ => False) rfl rfl ?aO ?aR (fun _ _ h => h) (fun _ h => h.elim) ?aF ?aB ?aS ?aL ?_; (case aR => exact kc_ (Kd.C_below HR146.out HB.out)); (case aB => exact bl_); (case aF => exact (fun k_ hk => Kd.freshB (kb_ BK141.out) k_ hk)); (case aO => exact ((Kd.R_nil _ _ _ _ (fun k_ => k_ ≠ gb141)))); (case aS => exact bz_); (case aL => have := LMc10.out; omega); intro v148 w19 ho hb hg hat; rw [← Ny147.out] at ho; replace BK141 := Aside0.mk (blk_grown (kb_ BK141.out) hg (by simp [Value.ownBlock])); replace HB := Aside0.mk (hb); have HO149 := Aside0.mk (ho); clear ho hb hg hat; have hcz20_0 : w19.cell? ⟨gb141, 0, none⟩ = some (.string a1_0) := bc_ BK141.out 0; have hcz20_1 : w19.cell? ⟨gb141, 1, none⟩ = some (.string a1_1) := bc_ BK141.out 1; have hfz20_0 := blk_frozen BK141.out 0; have hfz20_1 := blk_frozen BK141.out 1) | ((with_reducible refine gate_builtin (b := .append) (xs := #[.tmp 28, .tmp 30]) rfl ?_); at_builtin; refine Kd.R_append k57 (w0 := w) w.heap.size rfl (.tmp 28) (.tmp 30) 50 57 (.agg #[(.string ⟨#[]⟩), (.string ⟨#[]⟩)]) 32 rfl Try.underlying50 info57 rfl (by decide) (by omega) v148 y147 (⟨a1_0, a1_1⟩ : S57) [.string a1_0, .string a1_1] (fun k_ => k_ ≠ gb141) (fun _ => False) rfl rfl ?aP (fun _ hk => hk.elim) ?aF ?aO ?aB ?aS ?aL ?_; (case aP => exact k57_mkM _ _ _ (⟨a1_0, a1_1⟩ : S57)); (case aB => exact bl_); (case aF => exact (fun k_ hk => Kd.freshB (kb_ BK141.out) k_ hk)); (case aO => exact (kr_ HO149.out)); (case aS => exact bz_); (case aL => have := LMc11.out; omega); intro v151 w21 ho hb hg hat; rw [← Ny150.out] at ho; replace BK141 := Aside0.mk (blk_grown (kb_ BK141.out) hg (Kd.R_away HO149.out (fun _ hk => hk))); replace HB := Aside0.mk (hb); have HO152 := Aside0.mk (ho); clear HO149 ho hb hg hat; have p153 : 0 ≤ (x5_1 : Int) := of_decide_eq_true (by first | (with_reducible assumption) | assumption); have q153 : x5_1 < (l0.length : Int) := of_decide_eq_true (by first | (with_reducible assumption) | assumption); obtain ⟨ad153, e153, hx153_0, hx153_1⟩ := at_T57 HR0.out x5_1 p153 q153; obtain rfl : ad142 = ad153 := (by injection e153); replace hx153_0 := (HB.out.cell (World.block_lt_of_cell? w _ hx153_0)).trans hx153_0; replace hx153_1 := (HB.out.cell (World.block_lt_of_cell? w _ hx153_1)).trans hx153_1; replace p153 := eq_true p153; replace q153 := eq_true q153; have hcz22_0 : w21.cell? ⟨gb141, 0, none⟩ = some (.string a1_0) := bc_ BK141.out 0; have hcz22_1 : w21.cell? ⟨gb141, 1, none⟩ = some (.string a1_1) := bc_ BK141.out 1; have hfz22_0 := blk_frozen BK141.out 0; have hfz22_1 := blk_frozen BK141.out 1; have q23 : ((ji13) : Int) ≤ ((l0.length : Int) : Int) := of_decide_eq_true (by first | (with_reducible assumption) | assumption); obtain ⟨i023, hi023, _, hsz23, _⟩ := info_parts info57; have hroom23 : l0.length ≤ c0 := HC0.out; have hC23 : Kd.C k57 _ (some ad142) l0.length l0 := HR0.out; have q023 : (0 : Int) ≤ ((ji13) : Int) := of_decide_eq_true (by first | (with_reducible assumption) | assumption); have hcut23 := cut_from (P := Try.prog) 50 57 .i64 Try.underlying50 hi023 2 hsz23 (some ad142) l0.length c0 (ji13) q023 q23; have hr23 := Kd.C_drop (m := ((ji13) : Int).toNat) (c := c0) hC23 (by omega) hroom23; obtain ⟨A23, hA23⟩ : ∃ A1, A1 = (if c0 = ((ji13) : Int).toNat then (some ad142) else ((some ad142) : Option Addr).map (·.add (((ji13) : Int).toNat * 2))) := ⟨_, rfl⟩; obtain ⟨c23, hc23⟩ : ∃ c1, c1 = c0 - ((ji13) : Int).toNat := ⟨_, rfl⟩; have hy23 : y154.length = l0.length - ((ji13) : Int).toNat := (by rw [Ny154.out, List.length_drop] <;> omega); rw [show (l0).drop ((ji13) : Int).toNat = y154 from Ny154.out.symm] at hr23; replace hr23 : Kd.C k57 _ A23 y154.length y154 := (by rw [hA23]; exact hr23); rw [← hy23, ← hA23, ← hc23] at hcut23; have HR157 := Aside0.mk hr23; have HC157 := Aside0.mk (show y154.length ≤ c23 from by rw [hy23, hc23]; exact Nat.sub_le_sub_right hroom23 _); clear hr23 hC23 hroom23 hi023 hsz23 hc23; have KY23 := Aside0.mk hy23; have KA23 := Aside0.mk hA23; clear hy23 hA23; replace q23 := eq_true q23) | ((with_reducible refine gate_builtin (b := .append) (xs := #[.tmp 48, .tmp 51]) rfl ?_); at_builtin; refine Kd.R_append_rows k57 (w0 := w) w.heap.size rfl (.tmp 48) (.tmp 51) 50 57 (.agg #[(.string ⟨#[]⟩), (.string ⟨#[]⟩)]) 32 rfl Try.underlying50 info57 rfl (by decide) (by omega) v151 y150 y154 _ _ _ (fun k_ => k_ ≠ gb141) (fun _ => False) rfl rfl ?aO ?aR (fun _ _ h => h) (fun _ h => h.elim) ?aF ?aB ?aS ?aL ?_; (case aR => exact kc_ (Kd.C_below HR157.out HB.out)); (case aB => exact bl_); (case aF => exact (fun k_ hk => Kd.freshB (kb_ BK141.out) k_ hk)); (case aO => exact (kr_ HO152.out)); (case aS => exact bz_); (case aL => have := LMc16.out; omega); intro v159 w24 ho hb hg hat; rw [← Ny158.out] at ho; replace BK141 := Aside0.mk (blk_grown (kb_ BK141.out) hg (Kd.R_away HO152.out (fun _ hk => hk))); replace HB := Aside0.mk (hb); have HO160 := Aside0.mk (ho); clear HO152 ho hb hg hat)))
 go_ret
 exact ⟨_, by first | rfl | (simp [errW_none, errW_some] <;> rfl) | (simp only [← hji13]; first | rfl | (simp [errW_none, errW_some] <;> rfl)) | (simp [*, errW_none, errW_some] <;> rfl), by exact kr_ (Kd.R_mono HO160.out (fun _ hk => trivial)), bl_⟩

/-! ### laws_eqStringS: function 11 -/
def laws_eqStringS.l0 : Nat → List ByteArray → List ByteArray → Int → Option (Bool)
 | 0, _, _, _ => none
 | k + 1, x0, x1, x5 => if x5 < (x0.length : Int) then (if 0 ≤ x5 then (if x5 < (x1.length : Int) then (if (rdOf ByteArray.empty x0 x5).toList = (rdOf ByteArray.empty x1 x5).toList then (laws_eqStringS.l0 k x0 x1 (wrap64 (x5 + 1))) else (some false)) else (none)) else (none)) else (some true)
def laws_eqStringS.f (k : Nat) (l0 : List ByteArray) (l1 : List ByteArray) : Option (Bool) := if (l0.length : Int) = (l1.length : Int) then (laws_eqStringS.l0 k l0 l1 0) else (some false)
theorem laws_eqStringS.mono_l : ∀ k, (∀ y0 y1 y2, LeO (laws_eqStringS.l0 k y0 y1 y2) (laws_eqStringS.l0 (k + 1) y0 y1 y2))
 | 0 => fun _ _ _ r h => by simp [laws_eqStringS.l0] at h
 | k + 1 => by
  have ih0 := laws_eqStringS.mono_l k
  ·intro y0 y1 y2
   unfold laws_eqStringS.l0
   repeat' first
   | (with_reducible exact ih0 _ _ _)
   | (with_reducible exact LeO.refl _)
   | (with_reducible exact LeO.none _)
   | (with_reducible refine LeO.ite ?_ ?_)
   | (with_reducible refine LeO.bind ?_ (fun _ => ?_))
   | exact ih0 _ _ _
   | exact LeO.none _
   | refine LeO.ite ?_ ?_
   | refine LeO.bind ?_ (fun _ => ?_)
theorem laws_eqStringS.mono : ∀ a0 a1 k, LeO (laws_eqStringS.f k a0 a1) (laws_eqStringS.f (k + 1) a0 a1) := by
 intro a0 a1 k
 have ih0 := laws_eqStringS.mono_l k
 unfold laws_eqStringS.f
 repeat' first
   | (with_reducible exact ih0 _ _ _)
   | (with_reducible exact LeO.refl _)
   | (with_reducible exact LeO.none _)
   | (with_reducible refine LeO.ite ?_ ?_)
   | (with_reducible refine LeO.bind ?_ (fun _ => ?_))
   | exact ih0 _ _ _
   | exact LeO.none _
   | refine LeO.ite ?_ ?_
   | refine LeO.bind ?_ (fun _ => ?_)
set_option maxHeartbeats 8000000 in
set_option maxRecDepth 100000 in
theorem laws_eqStringS.calls (k : Nat) (A0 : Option Addr) (c0 : Nat) (l0 : List ByteArray) (A1 : Option Addr) (c1 : Nat) (l1 : List ByteArray) (r : Bool) (w : World) (hr0 : Kd.C Kd.string w A0 l0.length l0) (hc0 : l0.length ≤ c0) (hr1 : Kd.C Kd.string w A1 l1.length l1) (hc1 : l1.length ≤ c1) (h : laws_eqStringS.f k l0 l1 = some r) :
  Calls Try.prog 11 #[.slice A0 l0.length c0, .slice A1 l1.length c1] w fun e w' => e = .returned (.bool r) ∧ Drawn0 w w' := by
 have HR0 := Aside0.mk hr0
 have HC0 := Aside0.mk hc0
 clear hr0 hc0
 have HR1 := Aside0.mk hr1
 have HC1 := Aside0.mk hc1
 clear hr1 hc1
 have H : (if (l0.length : Int) = (l1.length : Int) then (laws_eqStringS.l0 k l0 l1 0) else (some false)) = some r := h
 clear h
 by_cases c3 : (l0.length : Int) = (l1.length : Int)
 rotate_left
 ·rw [if_neg c3] at H
  have c3b0 : ((l0.length : Int) == (l1.length : Int)) = false := beq_eq_false_iff_ne.mpr c3
  have c3b1 : ((l0.length : Int) != (l1.length : Int)) = true := bne_iff_ne.mpr c3
  have c3b2 : (l0.length == l1.length) = false := by first | simpa using c3 | (simp at c3 ⊢; omega)
  obtain rfl := Option.some.inj H
  go_enter Try.func11, Try.ntmps11
  go_wp2
  repeat (go_quiet (fail); try go_wp2)
  go_ret
  exact ⟨by first | rfl | (simp; done) | (simp [*]; done), by repeat (first | exact Drawn0.refl _ | apply Drawn0.step)⟩
 rw [if_pos c3] at H
 have c3b0 : ((l0.length : Int) == (l1.length : Int)) = true := beq_iff_eq.mpr c3
 have c3b1 : ((l0.length : Int) != (l1.length : Int)) = false := bne_eq_false_iff_eq.mpr c3
 have c3b2 : (l0.length == l1.length) = true := by first | simpa using c3 | (simp at c3 ⊢; omega)
 clear c3
 have H' := Aside0.mk H
 clear H
 go_enter Try.func11, Try.ntmps11
 go_wp2
 repeat (go_quiet (fail); try go_wp2)
 go_loopg [5] k (fun kq v5 w' => ∃ (x5_1 : Int), v5 = .int .i64 x5_1 ∧ Aside0 (laws_eqStringS.l0 kq l0 l1 x5_1 = some r) ∧ Aside0 (kq ≤ k) ∧ Drawn0 w w')
 case atStart => exact ⟨(0), (by first | rfl | (simp; done) | (simp [*]; done)), H', ⟨Nat.le_refl _⟩, by repeat (first | exact Drawn0.refl _ | apply Drawn0.step)⟩
 clear H'
 try clear c1
 try clear p2
 try clear c3
 try clear c3b0
 try clear c3b1
 try clear c3b2
 obtain ⟨x5_1, rfl, HA, HK1, ⟨m1, rfl⟩⟩ := hrel
 cases gk with
 | zero => exact absurd HA.out (by simp [laws_eqStringS.l0])
 | succ k1 => ?_
 have H := HA.out
 clear HA
 simp only [laws_eqStringS.l0] at H
 by_cases c4 : x5_1 < (l0.length : Int)
 rotate_left
 ·rw [if_neg c4] at H
  have c4b0 : decide (x5_1 < (l0.length : Int)) = false := decide_eq_false c4
  clear c4
  obtain rfl := Option.some.inj H
  go_wp2
  repeat (go_quiet (fail); try go_wp2)
  go_ret
  exact ⟨by first | rfl | (simp; done) | (simp [*]; done), by repeat (first | exact Drawn0.refl _ | apply Drawn0.step)⟩
 rw [if_pos c4] at H
 have c4b0 : decide (x5_1 < (l0.length : Int)) = true := decide_eq_true c4
 clear c4
 by_cases c5 : 0 ≤ x5_1
 rotate_left
 ·rw [if_neg c5] at H
  exact absurd H (by simp)
 rw [if_pos c5] at H
 have c5b0 : decide (0 ≤ x5_1) = true := decide_eq_true c5
 clear c5
 by_cases c6 : x5_1 < (l1.length : Int)
 rotate_left
 ·rw [if_neg c6] at H
  exact absurd H (by simp)
 rw [if_pos c6] at H
 have c6b0 : decide (x5_1 < (l1.length : Int)) = true := decide_eq_true c6
 clear c6
 by_cases c7 : (rdOf ByteArray.empty l0 x5_1).toList = (rdOf ByteArray.empty l1 x5_1).toList
 rotate_left
 ·rw [if_neg c7] at H
  have c7b0 : ((rdOf ByteArray.empty l0 x5_1).toList == (rdOf ByteArray.empty l1 x5_1).toList) = false := beq_eq_false_iff_ne.mpr c7
  have c7b1 : ((rdOf ByteArray.empty l0 x5_1).toList != (rdOf ByteArray.empty l1 x5_1).toList) = true := bne_iff_ne.mpr c7
  obtain rfl := Option.some.inj H
  have p427 : 0 ≤ (x5_1 : Int) := of_decide_eq_true (by first | (with_reducible assumption) | assumption)
  have q427 : x5_1 < (l0.length : Int) := of_decide_eq_true (by first | (with_reducible assumption) | assumption)
  obtain ⟨ad427, e427, hx427_0⟩ := Kd.at_string HR0.out x5_1 p427 q427
  cases e427
  replace p427 := eq_true p427
  replace q427 := eq_true q427
  have p428 : 0 ≤ (x5_1 : Int) := of_decide_eq_true (by first | (with_reducible assumption) | assumption)
  have q428 : x5_1 < (l1.length : Int) := of_decide_eq_true (by first | (with_reducible assumption) | assumption)
  obtain ⟨ad428, e428, hx428_0⟩ := Kd.at_string HR1.out x5_1 p428 q428
  cases e428
  replace p428 := eq_true p428
  replace q428 := eq_true q428
  go_wp2
  repeat (go_quiet (fail); try go_wp2)
  go_ret
  exact ⟨by first | rfl | (simp; done) | (simp [*]; done), by repeat (first | exact Drawn0.refl _ | apply Drawn0.step)⟩
 rw [if_pos c7] at H
 have c7b0 : ((rdOf ByteArray.empty l0 x5_1).toList == (rdOf ByteArray.empty l1 x5_1).toList) = true := beq_iff_eq.mpr c7
 have c7b1 : ((rdOf ByteArray.empty l0 x5_1).toList != (rdOf ByteArray.empty l1 x5_1).toList) = false := bne_eq_false_iff_eq.mpr c7
 clear c7
 have H' := Aside0.mk H
 clear H
 have p427 : 0 ≤ (x5_1 : Int) := of_decide_eq_true (by first | (with_reducible assumption) | assumption)
 have q427 : x5_1 < (l0.length : Int) := of_decide_eq_true (by first | (with_reducible assumption) | assumption)
 obtain ⟨ad427, e427, hx427_0⟩ := Kd.at_string HR0.out x5_1 p427 q427
 cases e427
 replace p427 := eq_true p427
 replace q427 := eq_true q427
 have p428 : 0 ≤ (x5_1 : Int) := of_decide_eq_true (by first | (with_reducible assumption) | assumption)
 have q428 : x5_1 < (l1.length : Int) := of_decide_eq_true (by first | (with_reducible assumption) | assumption)
 obtain ⟨ad428, e428, hx428_0⟩ := Kd.at_string HR1.out x5_1 p428 q428
 cases e428
 replace p428 := eq_true p428
 replace q428 := eq_true q428
 go_wp2
 repeat (go_quiet (fail); try go_wp2)
 go_roundg k1
 case measure => have := HK1.out; omega
 case rel => exact ⟨(wrap64 (x5_1 + 1)), (by first | rfl | (simp; done) | (simp [*]; done)), H', ⟨by have := HK1.out; omega⟩, by repeat (first | exact Drawn0.refl _ | apply Drawn0.step)⟩

/-! ### laws_markText: function 37 -/
def laws_markText.l0 : Nat → Int → ByteArray → Option (ByteArray)
 | 0, _, _ => none
 | k + 1, x0, x3 => if x0 > 0 then ((some (([(wrap64 (48 + (Int.tmod x0 10))) % 256] : List Int) : List Int)).bind fun y452 => (if (strOfNums y452).size + x3.size ≤ 9223372036854775807 then (laws_markText.l0 k (wrap64 (Int.tdiv x0 10)) ((strOfNums y452) ++ x3)) else (none))) else (if 1 + x3.size ≤ 9223372036854775807 then (some ((⟨#[109]⟩ : ByteArray) ++ x3)) else (none))
def laws_markText.f (k : Nat) (a0 : Int) : Option (ByteArray) := if a0 ≤ 0 then (some (⟨#[109, 48]⟩ : ByteArray)) else (laws_markText.l0 k a0 (⟨#[]⟩ : ByteArray))
theorem laws_markText.mono_l : ∀ k, (∀ y0 y1, LeO (laws_markText.l0 k y0 y1) (laws_markText.l0 (k + 1) y0 y1))
 | 0 => fun _ _ r h => by simp [laws_markText.l0] at h
 | k + 1 => by
  have ih0 := laws_markText.mono_l k
  ·intro y0 y1
   unfold laws_markText.l0
   repeat' first
   | (with_reducible exact ih0 _ _)
   | (with_reducible exact LeO.refl _)
   | (with_reducible exact LeO.none _)
   | (with_reducible refine LeO.ite ?_ ?_)
   | (with_reducible refine LeO.bind ?_ (fun _ => ?_))
   | exact ih0 _ _
   | exact LeO.none _
   | refine LeO.ite ?_ ?_
   | refine LeO.bind ?_ (fun _ => ?_)
theorem laws_markText.mono : ∀ a0 k, LeO (laws_markText.f k a0) (laws_markText.f (k + 1) a0) := by
 intro a0 k
 have ih0 := laws_markText.mono_l k
 unfold laws_markText.f
 repeat' first
   | (with_reducible exact ih0 _ _)
   | (with_reducible exact LeO.refl _)
   | (with_reducible exact LeO.none _)
   | (with_reducible refine LeO.ite ?_ ?_)
   | (with_reducible refine LeO.bind ?_ (fun _ => ?_))
   | exact ih0 _ _
   | exact LeO.none _
   | refine LeO.ite ?_ ?_
   | refine LeO.bind ?_ (fun _ => ?_)
set_option maxHeartbeats 8000000 in
set_option maxRecDepth 100000 in
theorem laws_markText.calls (k : Nat) (a0 : Int) (r : ByteArray) (w : World) (h : laws_markText.f k a0 = some r) :
  Calls Try.prog 37 #[.int .i64 a0] w fun e w' => e = .returned (.string r) ∧ Below w.heap.size w w' := by
 have HB := Aside0.mk (Below.refl w.heap.size w)
 have H : (if a0 ≤ 0 then (some (⟨#[109, 48]⟩ : ByteArray)) else (laws_markText.l0 k a0 (⟨#[]⟩ : ByteArray))) = some r := h
 clear h
 by_cases c2 : a0 ≤ 0
 ·rw [if_pos c2] at H
  have c2b0 : decide (a0 ≤ 0) = true := decide_eq_true c2
  clear c2
  obtain rfl := Option.some.inj H
  go_enter Try.func37, Try.ntmps37
  go_wp2
  go_ret
  exact ⟨ng_, bl_⟩
 rw [if_neg c2] at H
 have c2b0 : decide (a0 ≤ 0) = false := decide_eq_false c2
 clear c2
 have H' := Aside0.mk H
 clear H
 go_enter Try.func37, Try.ntmps37
 go_wp2
 go_loopg [0, 3] k (fun kq v0 v3 w' => ∃ (x0_1 : Int) (x3_1 : ByteArray), v0 = .int .i64 x0_1 ∧ v3 = .string x3_1 ∧ Aside0 (laws_markText.l0 kq x0_1 x3_1 = some r) ∧ Aside0 (kq ≤ k) ∧ Aside0 (Below w.heap.size w w'))
 case atStart => exact ⟨(a0), ((⟨#[]⟩ : ByteArray)), (by first | rfl | (simp; done) | (simp [*]; done)), (by first | rfl | (simp; done) | (simp [*]; done)), H', ⟨Nat.le_refl _⟩, ⟨bl_⟩⟩
 clear H'
 try clear c2
 try clear c2b0
 try clear p2
 obtain ⟨x0_1, x3_1, rfl, rfl, HA, HK1, HB⟩ := hrel
 cases gk with
 | zero => exact absurd HA.out (by simp [laws_markText.l0])
 | succ k1 => ?_
 have H := HA.out
 clear HA
 simp only [laws_markText.l0] at H
 by_cases c3 : x0_1 > 0
 rotate_left
 ·rw [if_neg c3] at H
  have c3b0 : decide (0 < x0_1) = false := decide_eq_false c3
  clear c3
  by_cases c8 : 1 + x3_1.size ≤ 9223372036854775807
  rotate_left
  ·rw [if_neg c8] at H
   exact absurd H (by simp)
  rw [if_pos c8] at H
  have c8b0 := eq_true c8
  have c8b1 : decide (1 + x3_1.size ≤ 9223372036854775807) = true := decide_eq_true c8
  try have c8b2 : (9223372036854775807 < 1 + x3_1.size) = False := eq_false (Nat.not_lt.2 c8)
  obtain rfl := Option.some.inj H
  go_wp2
  go_ret
  exact ⟨ng_, bl_⟩
 rw [if_pos c3] at H
 have c3b0 : decide (0 < x0_1) = true := decide_eq_true c3
 clear c3
 obtain ⟨y452, hy452⟩ : ∃ y_ : List Int, y_ = (([(wrap64 (48 + (Int.tmod x0_1 10))) % 256] : List Int)) := ⟨_, rfl⟩
 replace H : (if (strOfNums y452).size + x3_1.size ≤ 9223372036854775807 then (laws_markText.l0 k1 (wrap64 (Int.tdiv x0_1 10)) ((strOfNums y452) ++ x3_1)) else (none)) = some r := by first | (rw [hy452]; with_reducible exact H) | (have H2_ := (Option.bind_some _ _).symm.trans H; rw [hy452]; with_reducible exact H2_) | (have H2_ := (Option.bind_some _ _).symm.trans H; with_reducible exact H2_) | with_reducible exact H | (rw [hy452]; exact H) | exact H
 have Ny452 := Aside0.mk hy452
 clear hy452
 by_cases c4 : (strOfNums y452).size + x3_1.size ≤ 9223372036854775807
 rotate_left
 ·rw [if_neg c4] at H
  exact absurd H (by simp)
 rw [if_pos c4] at H
 have c4b0 := eq_true c4
 have c4b1 : decide ((strOfNums y452).size + x3_1.size ≤ 9223372036854775807) = true := decide_eq_true c4
 try have c4b2 : (9223372036854775807 < (strOfNums y452).size + x3_1.size) = False := eq_false (Nat.not_lt.2 c4)
 have H' := Aside0.mk H
 clear H
 go_wp2_with (first | ((with_reducible refine gate_dst (N := 12) rfl ?_); refine Kd.R_lit (Kd.int .u8) _ 5 rfl (N := 12) rfl (xs := ([(wrap64 (48 + (Int.tmod x0_1 10))) % 256] : List Int)) (inner := [.int .u8 ((wrap64 (48 + (Int.tmod x0_1 10))) % 256)]) (ok := fun _ => True) (okp := fun _ => True) gs_ ?hp (fun _ hk => hk) trivial (Below.refl _ _) (Nat.le_refl _) (by simp) ?_; (case hp => exact (Reps.one (show Kd.M (Kd.int .u8) _ _ _ ((wrap64 (48 + (Int.tmod x0_1 10))) % 256) [.int .u8 ((wrap64 (48 + (Int.tmod x0_1 10))) % 256)] from rfl) (Reps.none _ _))); intro v453 w5 ho6 hb hg_ hnew_; clear hg_ hnew_; (first | rw [← Ny452.out] at ho6 | (simp only [Int.reduceToNat] at ho6; rw [← Ny452.out] at ho6)); have HO454 := Aside0.mk (Kd.R_lower ho6 bz_); replace HB := Aside0.mk (below_step bl_ hb); clear hb ho6; have hcv7 := own_string (P := Try.prog) Try.underlying93 Try.underlying5 Try.underlying9 (Kd.own_of_R HO454.out)))
 go_roundg k1
 case measure => have := HK1.out; omega
 case rel => exact ⟨(wrap64 (Int.tdiv x0_1 10)), ((strOfNums y452) ++ x3_1), (by first | rfl | (simp; done) | (simp [*]; done)), (by first | rfl | (simp; done) | (simp [*]; done)), H', ⟨by have := HK1.out; omega⟩, ⟨bl_⟩⟩

/-! ### laws_markAcceptorS: function 35 -/
def laws_markAcceptorS.l0 : Nat → List (S70) → Int → Int → Option (Int × (List (S70)))
 | 0, _, _, _ => none
 | k + 1, x0, x1, x5 => if x5 < (x0.length : Int) then (if 0 ≤ x5 then ((some (x0.set (x5 : Int).toNat (⟨x1, (rd_T70 x0 x5).f1, (rd_T70 x0 x5).f2⟩ : S70) : List (S70))).bind fun y455 => ((some (y455.set (x5 : Int).toNat (⟨(rd_T70 y455 x5).f0, wrap64 (x1 + 1), (rd_T70 y455 x5).f2⟩ : S70) : List (S70))).bind fun y456 => ((laws_markText.f k (wrap64 ((wrap64 (x1 + 1)) + 1))).bind fun t457 => (laws_markAcceptorS.l0 k (y456.set (x5 : Int).toNat (⟨(rd_T70 y456 x5).f0, (rd_T70 y456 x5).f1, t457⟩ : S70)) (wrap64 ((wrap64 ((wrap64 (x1 + 1)) + 1)) + 1)) (wrap64 (x5 + 1)))))) else (none)) else (some (x1, x0))
def laws_markAcceptorS.f (k : Nat) (l0 : List (S70)) (a1 : Int) : Option (Int × (List (S70))) := laws_markAcceptorS.l0 k l0 a1 0
theorem laws_markAcceptorS.mono_l : ∀ k, (∀ y0 y1 y2, LeO (laws_markAcceptorS.l0 k y0 y1 y2) (laws_markAcceptorS.l0 (k + 1) y0 y1 y2))
 | 0 => fun _ _ _ r h => by simp [laws_markAcceptorS.l0] at h
 | k + 1 => by
  have ih0 := laws_markAcceptorS.mono_l k
  ·intro y0 y1 y2
   unfold laws_markAcceptorS.l0
   repeat' first
   | (with_reducible exact ih0 _ _ _)
   | (with_reducible exact laws_markText.mono _ _)
   | (with_reducible exact LeO.refl _)
   | (with_reducible exact LeO.none _)
   | (with_reducible refine LeO.ite ?_ ?_)
   | (with_reducible refine LeO.bind ?_ (fun _ => ?_))
   | exact ih0 _ _ _
   | exact laws_markText.mono _ _
   | exact LeO.none _
   | refine LeO.ite ?_ ?_
   | refine LeO.bind ?_ (fun _ => ?_)
theorem laws_markAcceptorS.mono : ∀ a0 a1 k, LeO (laws_markAcceptorS.f k a0 a1) (laws_markAcceptorS.f (k + 1) a0 a1) := by
 intro a0 a1 k
 have ih0 := laws_markAcceptorS.mono_l k
 unfold laws_markAcceptorS.f
 repeat' first
   | (with_reducible exact ih0 _ _ _)
   | (with_reducible exact laws_markText.mono _ _)
   | (with_reducible exact LeO.refl _)
   | (with_reducible exact LeO.none _)
   | (with_reducible refine LeO.ite ?_ ?_)
   | (with_reducible refine LeO.bind ?_ (fun _ => ?_))
   | exact ih0 _ _ _
   | exact laws_markText.mono _ _
   | exact LeO.none _
   | refine LeO.ite ?_ ?_
   | refine LeO.bind ?_ (fun _ => ?_)
set_option maxHeartbeats 8000000 in
set_option maxRecDepth 100000 in
theorem laws_markAcceptorS.calls (k : Nat) (P0_ : Nat → Prop) (u9000_ : Value) (l0 : List (S70)) (a1 : Int) (r1 : Int) (r2 : List (S70)) (w0 w : World) (hB : Below w0.heap.size w0 w) (ho0 : Kd.R k70 70 w w0.heap.size P0_ u9000_ l0) (h : laws_markAcceptorS.f k l0 a1 = some (r1, r2)) :
  Calls Try.prog 35 #[u9000_, .int .i64 a1] w fun e w' => e = .returned (.int .i64 r1) ∧ Kd.R k70 70 w' w0.heap.size (fun k_ => (P0_ k_ ∨ w.heap.size ≤ k_)) u9000_ r2 ∧ Below w0.heap.size w0 w' ∧ Kept w w' (fun k_ => P0_ k_) := by
 have HO0 := Aside0.mk (show Kd.R k70 70 w w0.heap.size (fun k_ => (P0_ k_ ∨ w.heap.size ≤ k_)) u9000_ l0 from Kd.R_mono ho0 (fun k_ hk => (.inl hk)))
 have HK := Aside0.mk (Kept.refl w (fun k_ => P0_ k_))
 have HW0 := Aside0.mk hB.size
 have HB := Aside0.mk hB
 clear hB
 have H : (laws_markAcceptorS.l0 k l0 a1 0) = some (r1, r2) := h
 clear h
 have H' := Aside0.mk H
 clear H
 go_enter Try.func35, Try.ntmps35
 go_wp2
 go_loopg [1, 5] k (fun kq v1 v5 w' => ∃ (x0_1 : List (S70)) (x1_1 : Int) (x5_1 : Int), v1 = .int .i64 x1_1 ∧ v5 = .int .i64 x5_1 ∧ Aside0 (laws_markAcceptorS.l0 kq x0_1 x1_1 x5_1 = some (r1, r2)) ∧ Aside0 (kq ≤ k) ∧ Aside0 (Kd.R k70 70 w' w0.heap.size (fun k_ => (P0_ k_ ∨ w.heap.size ≤ k_)) u9000_ x0_1) ∧ Aside0 (Kept w w' (fun k_ => P0_ k_)) ∧ Aside0 (Below w0.heap.size w0 w'))
 case atStart => exact ⟨(l0), (a1), (0), (by first | rfl | (simp; done) | (simp [*]; done)), (by first | rfl | (simp; done) | (simp [*]; done)), H', ⟨Nat.le_refl _⟩, ⟨by exact kr_ HO0.out⟩, ⟨by repeat (first | (with_reducible first | exact HK.out | apply Kept.alloc | apply Kept.drewN | apply Kept.drew) | exact HK.out)⟩, ⟨bl_⟩⟩
 clear H'
 try clear p2
 obtain ⟨x0_1, x1_1, x5_1, rfl, rfl, HA, HK1, HO_0, HK, HB⟩ := hrel
 cases gk with
 | zero => exact absurd HA.out (by simp [laws_markAcceptorS.l0])
 | succ k1 => ?_
 have H := HA.out
 clear HA
 simp only [laws_markAcceptorS.l0] at H
 by_cases c3 : x5_1 < (x0_1.length : Int)
 rotate_left
 ·rw [if_neg c3] at H
  have c3b0 : decide (x5_1 < (x0_1.length : Int)) = false := decide_eq_false c3
  clear c3
  simp only [Option.some.injEq, Prod.mk.injEq] at H
  obtain ⟨rfl, rfl⟩ := H
  obtain ⟨Ao17, co17, eo17⟩ := Kd.R_slice HO_0.out
  subst eo17
  go_wp2
  go_ret
  exact ⟨ng_, by exact kr_ HO_0.out, bl_, by repeat (first | (with_reducible first | exact HK.out | apply Kept.alloc | apply Kept.drewN | apply Kept.drew) | exact HK.out)⟩
 rw [if_pos c3] at H
 have c3b0 : decide (x5_1 < (x0_1.length : Int)) = true := decide_eq_true c3
 clear c3
 by_cases c4 : 0 ≤ x5_1
 rotate_left
 ·rw [if_neg c4] at H
  exact absurd H (by simp)
 rw [if_pos c4] at H
 have c4b0 : decide (0 ≤ x5_1) = true := decide_eq_true c4
 clear c4
 obtain ⟨y455, hy455⟩ : ∃ y_ : List (S70), y_ = (x0_1.set (x5_1 : Int).toNat (⟨x1_1, (rd_T70 x0_1 x5_1).f1, (rd_T70 x0_1 x5_1).f2⟩ : S70)) := ⟨_, rfl⟩
 replace H : ((some (y455.set (x5_1 : Int).toNat (⟨(rd_T70 y455 x5_1).f0, wrap64 (x1_1 + 1), (rd_T70 y455 x5_1).f2⟩ : S70) : List (S70))).bind fun y456 => ((laws_markText.f k1 (wrap64 ((wrap64 (x1_1 + 1)) + 1))).bind fun t457 => (laws_markAcceptorS.l0 k1 (y456.set (x5_1 : Int).toNat (⟨(rd_T70 y456 x5_1).f0, (rd_T70 y456 x5_1).f1, t457⟩ : S70)) (wrap64 ((wrap64 ((wrap64 (x1_1 + 1)) + 1)) + 1)) (wrap64 (x5_1 + 1))))) = some (r1, r2) := by first | (rw [hy455]; with_reducible exact H) | (have H2_ := (Option.bind_some _ _).symm.trans H; rw [hy455]; with_reducible exact H2_) | (have H2_ := (Option.bind_some _ _).symm.trans H; with_reducible exact H2_) | with_reducible exact H | (rw [hy455]; exact H) | exact H
 have Ny455 := Aside0.mk hy455
 clear hy455
 obtain ⟨y456, hy456⟩ : ∃ y_ : List (S70), y_ = (y455.set (x5_1 : Int).toNat (⟨(rd_T70 y455 x5_1).f0, wrap64 (x1_1 + 1), (rd_T70 y455 x5_1).f2⟩ : S70)) := ⟨_, rfl⟩
 replace H : ((laws_markText.f k1 (wrap64 ((wrap64 (x1_1 + 1)) + 1))).bind fun t457 => (laws_markAcceptorS.l0 k1 (y456.set (x5_1 : Int).toNat (⟨(rd_T70 y456 x5_1).f0, (rd_T70 y456 x5_1).f1, t457⟩ : S70)) (wrap64 ((wrap64 ((wrap64 (x1_1 + 1)) + 1)) + 1)) (wrap64 (x5_1 + 1)))) = some (r1, r2) := by first | (rw [hy456]; with_reducible exact H) | (have H2_ := (Option.bind_some _ _).symm.trans H; rw [hy456]; with_reducible exact H2_) | (have H2_ := (Option.bind_some _ _).symm.trans H; with_reducible exact H2_) | with_reducible exact H | (rw [hy456]; exact H) | exact H
 have Ny456 := Aside0.mk hy456
 clear hy456
 replace H := Option.bind_eq_some_iff.mp H
 obtain ⟨t457, A70, H⟩ := H
 replace H : (laws_markAcceptorS.l0 k1 (y456.set (x5_1 : Int).toNat (⟨(rd_T70 y456 x5_1).f0, (rd_T70 y456 x5_1).f1, t457⟩ : S70)) (wrap64 ((wrap64 ((wrap64 (x1_1 + 1)) + 1)) + 1)) (wrap64 (x5_1 + 1))) = some (r1, r2) := H
 have A7 := Aside0.mk A70
 clear A70
 obtain ⟨y458, hy458⟩ : ∃ y_ : List (S70), y_ = (y456.set (x5_1 : Int).toNat (⟨(rd_T70 y456 x5_1).f0, (rd_T70 y456 x5_1).f1, t457⟩ : S70)) := ⟨_, rfl⟩
 replace H : (laws_markAcceptorS.l0 k1 y458 (wrap64 ((wrap64 ((wrap64 (x1_1 + 1)) + 1)) + 1)) (wrap64 (x5_1 + 1))) = some (r1, r2) := by first | (rw [hy458]; with_reducible exact H) | (have H2_ := (Option.bind_some _ _).symm.trans H; rw [hy458]; with_reducible exact H2_) | (have H2_ := (Option.bind_some _ _).symm.trans H; with_reducible exact H2_) | with_reducible exact H | (rw [hy458]; exact H) | exact H
 have Ny458 := Aside0.mk hy458
 clear hy458
 have H' := Aside0.mk H
 clear H
 obtain ⟨Ao9, co9, eo9⟩ := Kd.R_slice HO_0.out
 subst eo9
 have p5 : 0 ≤ (x5_1 : Int) := of_decide_eq_true (by first | (with_reducible assumption) | assumption)
 have q5 : (x5_1 : Int) < ((x0_1.length : Int) : Int) := of_decide_eq_true (by first | (with_reducible assumption) | assumption)
 obtain ⟨go5, co5, eo5, gb5, gl5, cl5, HG5⟩ := Kd.R_form HO_0.out (by omega)
 (first | cases eo5 | (injection eo5 with ea_ en_ ec_; (first | subst ea_ | (injection ea_ with ea_; subst ea_)); subst ec_; clear en_))
 have GB5 := Aside0.mk gb5
 have GG5 := Aside0.mk HG5
 clear gb5 gl5 HG5
 have HMgo5 := Aside0.mk (show (P0_ go5 ∨ w.heap.size ≤ go5) from (HO_0.out.1 _ rfl))
 obtain ⟨ce5, hcl5, hM5, hcc5, hfr5⟩ := Kd.R_elem HO_0.out z70 (x5_1 : Int) p5 q5
 obtain rfl := k70_openM hM5
 have hx5_0 : wr.cell? ⟨go5, (x5_1 : Int).toNat * 3, none⟩ = some (.int .i64 ((rd_T70 x0_1 x5_1).f0)) := hcc5 0 _ rfl
 have hx5_1 : wr.cell? ⟨go5, (x5_1 : Int).toNat * 3 + 1, none⟩ = some (.int .i64 ((rd_T70 x0_1 x5_1).f1)) := hcc5 1 _ rfl
 have hx5_2 : wr.cell? ⟨go5, (x5_1 : Int).toNat * 3 + 2, none⟩ = some (.string ((rd_T70 x0_1 x5_1).f2)) := hcc5 2 _ rfl
 have hf5_0 : wr.frozen? ⟨go5, (x5_1 : Int).toNat * 3, none⟩ = false := hfr5 0
 have hf5_1 : wr.frozen? ⟨go5, (x5_1 : Int).toNat * 3 + 1, none⟩ = false := hfr5 1
 have hf5_2 : wr.frozen? ⟨go5, (x5_1 : Int).toNat * 3 + 2, none⟩ = false := hfr5 2
 clear hcl5 hcc5 hfr5 hM5
 replace p5 := eq_true p5
 replace q5 := eq_true q5
 have HX10 := Aside0.mk (show Kd.R k70 70 wr w0.heap.size (fun k_ => (P0_ k_ ∨ w.heap.size ≤ k_)) (.slice (some ⟨go5, 0, none⟩) x0_1.length co9) x0_1 from (kr_ HO_0.out))
 obtain ⟨ce10, hcl10, hM10, hcc10, hfr10⟩ := Kd.R_elem HX10.out z70 (x5_1 : Int) (of_decide_eq_true (by first | (with_reducible assumption) | assumption)) (by have h_ : (x5_1 : Int) < ((x0_1.length : Int) : Int) := of_decide_eq_true (by first | (with_reducible assumption) | assumption); first | exact h_ | (have e_ := (Kd.R_reads' HO_0.out).1; omega) | simpa using h_)
 obtain rfl := k70_openM hM10
 have HP10 := Kd.R_seg HX10.out (x5_1 : Int) (of_decide_eq_true (by first | (with_reducible assumption) | assumption)) (by have h_ : (x5_1 : Int) < ((x0_1.length : Int) : Int) := of_decide_eq_true (by first | (with_reducible assumption) | assumption); first | exact h_ | (have e_ := (Kd.R_reads' HO_0.out).1; omega) | simpa using h_) (seg := [.int .i64 x1_1]) (j := 0) hcl10 hcc10 (show 1 ≤ 3 from by decide) (x' := (⟨x1_1, (rd_T70 x0_1 x5_1).f1, (rd_T70 x0_1 x5_1).f2⟩ : S70)) (k70_mkM _ _ _ (⟨x1_1, (rd_T70 x0_1 x5_1).f1, (rd_T70 x0_1 x5_1).f2⟩ : S70) ) (fun _ hk => hk)
 have hx10_0 := hcc10 0 _ rfl
 (try simp only [show (k70).sz = 3 from rfl, Nat.mul_one, Nat.add_zero] at hx10_0)
 have hf10_0 := hfr10 0
 (try simp only [show (k70).sz = 3 from rfl, Nat.mul_one, Nat.add_zero] at hf10_0)
 clear hcl10 hcc10 hfr10 hM10
 go_wp2_with (first | ((with_reducible refine gate_store (t := 3) (p := 16) rfl ?_); refine store_event (t := 3) (p := 16) (v := ?vo_w11) (w1 := (wr.setCell ⟨go5, (x5_1 : Int).toNat * 3, none⟩ (.int .i64 x1_1))) ?hg ?ho ?hn ?hr ?_; (case ho => rfl); (case hg => rfl); (case hn => rfl); (case hr => first | (go_simp; done) | (go_simp; rfl)); intro w11 hw; have hg : wr.grownBy w11 (some go5) := (by rw [hw]; exact HP10.2); have hp_ : Kd.R k70 70 w11 w0.heap.size (fun k_ => (P0_ k_ ∨ w.heap.size ≤ k_)) (.slice (some ⟨go5, 0, none⟩) x0_1.length co9) y455 := (by rw [hw, Ny455.out]; exact HP10.1); clear HP10; replace HB := Aside0.mk ((by rw [hw]; exact below_set (HB.out) GB5.out : Below w0.heap.size w0 w11)); replace HK := Aside0.mk (Kept.of_grown (S := (fun k_ => P0_ k_)) hg (by repeat (first | (with_reducible first | exact HK.out | apply Kept.alloc | apply Kept.drewN | apply Kept.drew) | exact HK.out)) (fun k_ e_ => (HO_0.out.1 k_ e_))); replace HO_0 := Aside0.mk (hp_); clear hg hw hp_; have p6 : 0 ≤ (x5_1 : Int) := of_decide_eq_true (by first | (with_reducible assumption) | assumption); have q6 : (x5_1 : Int) < ((x0_1.length : Int) : Int) := of_decide_eq_true (by first | (with_reducible assumption) | assumption); obtain ⟨ce6, hcl6, hM6, hcc6, hfr6⟩ := Kd.R_elem HO_0.out z70 (x5_1 : Int) p6 q6; obtain rfl := k70_openM hM6; have hx6_0 : w11.cell? ⟨go5, (x5_1 : Int).toNat * 3, none⟩ = some (.int .i64 ((rd_T70 y455 x5_1).f0)) := hcc6 0 _ rfl; have hx6_1 : w11.cell? ⟨go5, (x5_1 : Int).toNat * 3 + 1, none⟩ = some (.int .i64 ((rd_T70 y455 x5_1).f1)) := hcc6 1 _ rfl; have hx6_2 : w11.cell? ⟨go5, (x5_1 : Int).toNat * 3 + 2, none⟩ = some (.string ((rd_T70 y455 x5_1).f2)) := hcc6 2 _ rfl; have hf6_0 : w11.frozen? ⟨go5, (x5_1 : Int).toNat * 3, none⟩ = false := hfr6 0; have hf6_1 : w11.frozen? ⟨go5, (x5_1 : Int).toNat * 3 + 1, none⟩ = false := hfr6 1; have hf6_2 : w11.frozen? ⟨go5, (x5_1 : Int).toNat * 3 + 2, none⟩ = false := hfr6 2; clear hcl6 hcc6 hfr6 hM6; replace p6 := eq_true p6; replace q6 := eq_true q6; have HX12 := Aside0.mk (show Kd.R k70 70 w11 w0.heap.size (fun k_ => (P0_ k_ ∨ w.heap.size ≤ k_)) (.slice (some ⟨go5, 0, none⟩) x0_1.length co9) y455 from (kr_ HO_0.out)); obtain ⟨ce12, hcl12, hM12, hcc12, hfr12⟩ := Kd.R_elem HX12.out z70 (x5_1 : Int) (of_decide_eq_true (by first | (with_reducible assumption) | assumption)) (by have h_ : (x5_1 : Int) < ((x0_1.length : Int) : Int) := of_decide_eq_true (by first | (with_reducible assumption) | assumption); first | exact h_ | (have e_ := (Kd.R_reads' HO_0.out).1; omega) | simpa using h_); obtain rfl := k70_openM hM12; have HP12 := Kd.R_seg HX12.out (x5_1 : Int) (of_decide_eq_true (by first | (with_reducible assumption) | assumption)) (by have h_ : (x5_1 : Int) < ((x0_1.length : Int) : Int) := of_decide_eq_true (by first | (with_reducible assumption) | assumption); first | exact h_ | (have e_ := (Kd.R_reads' HO_0.out).1; omega) | simpa using h_) (seg := [.int .i64 (wrap64 (x1_1 + 1))]) (j := 1) hcl12 hcc12 (show 2 ≤ 3 from by decide) (x' := (⟨(rd_T70 y455 x5_1).f0, wrap64 (x1_1 + 1), (rd_T70 y455 x5_1).f2⟩ : S70)) (k70_mkM _ _ _ (⟨(rd_T70 y455 x5_1).f0, wrap64 (x1_1 + 1), (rd_T70 y455 x5_1).f2⟩ : S70) ) (fun _ hk => hk); have hx12_1 := hcc12 1 _ rfl; (try simp only [show (k70).sz = 3 from rfl, Nat.mul_one, Nat.add_zero] at hx12_1); have hf12_1 := hfr12 1; (try simp only [show (k70).sz = 3 from rfl, Nat.mul_one, Nat.add_zero] at hf12_1); clear hcl12 hcc12 hfr12 hM12) | ((with_reducible refine gate_store (t := 3) (p := 23) rfl ?_); refine store_event (t := 3) (p := 23) (v := ?vo_w13) (w1 := (w11.setCell ⟨go5, (x5_1 : Int).toNat * 3 + 1, none⟩ (.int .i64 (wrap64 (x1_1 + 1))))) ?hg ?ho ?hn ?hr ?_; (case ho => rfl); (case hg => rfl); (case hn => rfl); (case hr => first | (go_simp; done) | (go_simp; rfl)); intro w13 hw; have hg : w11.grownBy w13 (some go5) := (by rw [hw]; exact HP12.2); have hp_ : Kd.R k70 70 w13 w0.heap.size (fun k_ => (P0_ k_ ∨ w.heap.size ≤ k_)) (.slice (some ⟨go5, 0, none⟩) x0_1.length co9) y456 := (by rw [hw, Ny456.out]; exact HP12.1); clear HP12; replace HB := Aside0.mk ((by rw [hw]; exact below_set (HB.out) GB5.out : Below w0.heap.size w0 w13)); replace HK := Aside0.mk (Kept.of_grown (S := (fun k_ => P0_ k_)) hg (by repeat (first | (with_reducible first | exact HK.out | apply Kept.alloc | apply Kept.drewN | apply Kept.drew) | exact HK.out)) (fun k_ e_ => (HO_0.out.1 k_ e_))); replace HO_0 := Aside0.mk (hp_); clear hg hw hp_) | ((with_reducible refine gate_callee (f := 37) rfl ?_); refine goesL_ (some 29) rfl rfl Try.func37 (by kernel_rfl) rfl #[.int .i64 (wrap64 ((wrap64 (x1_1 + 1)) + 1))] rfl nc_ ?_; (with_reducible refine (laws_markText.calls k1 (wrap64 ((wrap64 (x1_1 + 1)) + 1)) t457 _ A7.out).mono ?_); rintro e w14 ⟨rfl, hb⟩; refine ⟨_, rfl, ?_⟩; replace HO_0 := rb_ HO_0 hb; replace HK := Aside0.mk (Kept.below (S := (fun k_ => P0_ k_)) (by repeat (first | (with_reducible first | exact HK.out | apply Kept.alloc | apply Kept.drewN | apply Kept.drew) | exact HK.out)) hb); replace HB := Aside0.mk (below_step bl_ hb); clear hb; have p8 : 0 ≤ (x5_1 : Int) := of_decide_eq_true (by first | (with_reducible assumption) | assumption); have q8 : (x5_1 : Int) < ((x0_1.length : Int) : Int) := of_decide_eq_true (by first | (with_reducible assumption) | assumption); obtain ⟨ce8, hcl8, hM8, hcc8, hfr8⟩ := Kd.R_elem HO_0.out z70 (x5_1 : Int) p8 q8; obtain rfl := k70_openM hM8; have hx8_0 : w14.cell? ⟨go5, (x5_1 : Int).toNat * 3, none⟩ = some (.int .i64 ((rd_T70 y456 x5_1).f0)) := hcc8 0 _ rfl; have hx8_1 : w14.cell? ⟨go5, (x5_1 : Int).toNat * 3 + 1, none⟩ = some (.int .i64 ((rd_T70 y456 x5_1).f1)) := hcc8 1 _ rfl; have hx8_2 : w14.cell? ⟨go5, (x5_1 : Int).toNat * 3 + 2, none⟩ = some (.string ((rd_T70 y456 x5_1).f2)) := hcc8 2 _ rfl; have hf8_0 : w14.frozen? ⟨go5, (x5_1 : Int).toNat * 3, none⟩ = false := hfr8 0; have hf8_1 : w14.frozen? ⟨go5, (x5_1 : Int).toNat * 3 + 1, none⟩ = false := hfr8 1; have hf8_2 : w14.frozen? ⟨go5, (x5_1 : Int).toNat * 3 + 2, none⟩ = false := hfr8 2; clear hcl8 hcc8 hfr8 hM8; replace p8 := eq_true p8; replace q8 := eq_true q8; have HX15 := Aside0.mk (show Kd.R k70 70 w14 w0.heap.size (fun k_ => (P0_ k_ ∨ w.heap.size ≤ k_)) (.slice (some ⟨go5, 0, none⟩) x0_1.length co9) y456 from (kr_ HO_0.out)); obtain ⟨ce15, hcl15, hM15, hcc15, hfr15⟩ := Kd.R_elem HX15.out z70 (x5_1 : Int) (of_decide_eq_true (by first | (with_reducible assumption) | assumption)) (by have h_ : (x5_1 : Int) < ((x0_1.length : Int) : Int) := of_decide_eq_true (by first | (with_reducible assumption) | assumption); first | exact h_ | (have e_ := (Kd.R_reads' HO_0.out).1; omega) | simpa using h_); obtain rfl := k70_openM hM15; have HP15 := Kd.R_seg HX15.out (x5_1 : Int) (of_decide_eq_true (by first | (with_reducible assumption) | assumption)) (by have h_ : (x5_1 : Int) < ((x0_1.length : Int) : Int) := of_decide_eq_true (by first | (with_reducible assumption) | assumption); first | exact h_ | (have e_ := (Kd.R_reads' HO_0.out).1; omega) | simpa using h_) (seg := [.string t457]) (j := 2) hcl15 hcc15 (show 3 ≤ 3 from by decide) (x' := (⟨(rd_T70 y456 x5_1).f0, (rd_T70 y456 x5_1).f1, t457⟩ : S70)) (k70_mkM _ _ _ (⟨(rd_T70 y456 x5_1).f0, (rd_T70 y456 x5_1).f1, t457⟩ : S70) ) (fun _ hk => hk); have hx15_2 := hcc15 2 _ rfl; (try simp only [show (k70).sz = 3 from rfl, Nat.mul_one, Nat.add_zero] at hx15_2); have hf15_2 := hfr15 2; (try simp only [show (k70).sz = 3 from rfl, Nat.mul_one, Nat.add_zero] at hf15_2); clear hcl15 hcc15 hfr15 hM15) | ((with_reducible refine gate_store (t := 9) (p := 31) rfl ?_); refine store_event (t := 9) (p := 31) (v := ?vo_w16) (w1 := (w14.setCell ⟨go5, (x5_1 : Int).toNat * 3 + 2, none⟩ (.string t457))) ?hg ?ho ?hn ?hr ?_; (case ho => rfl); (case hg => rfl); (case hn => rfl); (case hr => first | (go_simp; done) | (go_simp; rfl)); intro w16 hw; have hg : w14.grownBy w16 (some go5) := (by rw [hw]; exact HP15.2); have hp_ : Kd.R k70 70 w16 w0.heap.size (fun k_ => (P0_ k_ ∨ w.heap.size ≤ k_)) (.slice (some ⟨go5, 0, none⟩) x0_1.length co9) y458 := (by rw [hw, Ny458.out]; exact HP15.1); clear HP15; replace HB := Aside0.mk ((by rw [hw]; exact below_set (HB.out) GB5.out : Below w0.heap.size w0 w16)); replace HK := Aside0.mk (Kept.of_grown (S := (fun k_ => P0_ k_)) hg (by repeat (first | (with_reducible first | exact HK.out | apply Kept.alloc | apply Kept.drewN | apply Kept.drew) | exact HK.out)) (fun k_ e_ => (HO_0.out.1 k_ e_))); replace HO_0 := Aside0.mk (hp_); clear hg hw hp_))
 go_roundg k1
 case measure => have := HK1.out; omega
 case rel => exact ⟨(y458), (wrap64 ((wrap64 ((wrap64 (x1_1 + 1)) + 1)) + 1)), (wrap64 (x5_1 + 1)), (by first | rfl | (simp; done) | (simp [*]; done)), (by first | rfl | (simp; done) | (simp [*]; done)), H', ⟨by have := HK1.out; omega⟩, ⟨by exact kr_ HO_0.out⟩, ⟨by repeat (first | (with_reducible first | exact HK.out | apply Kept.alloc | apply Kept.drewN | apply Kept.drew) | exact HK.out)⟩, ⟨bl_⟩⟩

/-! ### laws_markPromiseS: function 59 -/
def laws_markPromiseS.l0 : Nat → List (S73) → Int → Int → Option (Int × (List (S73)))
 | 0, _, _, _ => none
 | k + 1, x0, x1, x5 => if x5 < (x0.length : Int) then (if 0 ≤ x5 then ((some (x0.set (x5 : Int).toNat (⟨x1, (rd_T73 x0 x5).f1, (rd_T73 x0 x5).f2⟩ : S73) : List (S73))).bind fun y459 => ((some (y459.set (x5 : Int).toNat (⟨(rd_T73 y459 x5).f0, wrap64 (x1 + 1), (rd_T73 y459 x5).f2⟩ : S73) : List (S73))).bind fun y460 => ((laws_markText.f k (wrap64 ((wrap64 (x1 + 1)) + 1))).bind fun t461 => (laws_markPromiseS.l0 k (y460.set (x5 : Int).toNat (⟨(rd_T73 y460 x5).f0, (rd_T73 y460 x5).f1, t461⟩ : S73)) (wrap64 ((wrap64 ((wrap64 (x1 + 1)) + 1)) + 1)) (wrap64 (x5 + 1)))))) else (none)) else (some (x1, x0))
def laws_markPromiseS.f (k : Nat) (l0 : List (S73)) (a1 : Int) : Option (Int × (List (S73))) := laws_markPromiseS.l0 k l0 a1 0
theorem laws_markPromiseS.mono_l : ∀ k, (∀ y0 y1 y2, LeO (laws_markPromiseS.l0 k y0 y1 y2) (laws_markPromiseS.l0 (k + 1) y0 y1 y2))
 | 0 => fun _ _ _ r h => by simp [laws_markPromiseS.l0] at h
 | k + 1 => by
  have ih0 := laws_markPromiseS.mono_l k
  ·intro y0 y1 y2
   unfold laws_markPromiseS.l0
   repeat' first
   | (with_reducible exact ih0 _ _ _)
   | (with_reducible exact laws_markText.mono _ _)
   | (with_reducible exact LeO.refl _)
   | (with_reducible exact LeO.none _)
   | (with_reducible refine LeO.ite ?_ ?_)
   | (with_reducible refine LeO.bind ?_ (fun _ => ?_))
   | exact ih0 _ _ _
   | exact laws_markText.mono _ _
   | exact LeO.none _
   | refine LeO.ite ?_ ?_
   | refine LeO.bind ?_ (fun _ => ?_)
theorem laws_markPromiseS.mono : ∀ a0 a1 k, LeO (laws_markPromiseS.f k a0 a1) (laws_markPromiseS.f (k + 1) a0 a1) := by
 intro a0 a1 k
 have ih0 := laws_markPromiseS.mono_l k
 unfold laws_markPromiseS.f
 repeat' first
   | (with_reducible exact ih0 _ _ _)
   | (with_reducible exact laws_markText.mono _ _)
   | (with_reducible exact LeO.refl _)
   | (with_reducible exact LeO.none _)
   | (with_reducible refine LeO.ite ?_ ?_)
   | (with_reducible refine LeO.bind ?_ (fun _ => ?_))
   | exact ih0 _ _ _
   | exact laws_markText.mono _ _
   | exact LeO.none _
   | refine LeO.ite ?_ ?_
   | refine LeO.bind ?_ (fun _ => ?_)
set_option maxHeartbeats 8000000 in
set_option maxRecDepth 100000 in
theorem laws_markPromiseS.calls (k : Nat) (P0_ : Nat → Prop) (u9000_ : Value) (l0 : List (S73)) (a1 : Int) (r1 : Int) (r2 : List (S73)) (w0 w : World) (hB : Below w0.heap.size w0 w) (ho0 : Kd.R k73 73 w w0.heap.size P0_ u9000_ l0) (h : laws_markPromiseS.f k l0 a1 = some (r1, r2)) :
  Calls Try.prog 59 #[u9000_, .int .i64 a1] w fun e w' => e = .returned (.int .i64 r1) ∧ Kd.R k73 73 w' w0.heap.size (fun k_ => (P0_ k_ ∨ w.heap.size ≤ k_)) u9000_ r2 ∧ Below w0.heap.size w0 w' ∧ Kept w w' (fun k_ => P0_ k_) := by
 have HO0 := Aside0.mk (show Kd.R k73 73 w w0.heap.size (fun k_ => (P0_ k_ ∨ w.heap.size ≤ k_)) u9000_ l0 from Kd.R_mono ho0 (fun k_ hk => (.inl hk)))
 have HK := Aside0.mk (Kept.refl w (fun k_ => P0_ k_))
 have HW0 := Aside0.mk hB.size
 have HB := Aside0.mk hB
 clear hB
 have H : (laws_markPromiseS.l0 k l0 a1 0) = some (r1, r2) := h
 clear h
 have H' := Aside0.mk H
 clear H
 go_enter Try.func59, Try.ntmps59
 go_wp2
 go_loopg [1, 5] k (fun kq v1 v5 w' => ∃ (x0_1 : List (S73)) (x1_1 : Int) (x5_1 : Int), v1 = .int .i64 x1_1 ∧ v5 = .int .i64 x5_1 ∧ Aside0 (laws_markPromiseS.l0 kq x0_1 x1_1 x5_1 = some (r1, r2)) ∧ Aside0 (kq ≤ k) ∧ Aside0 (Kd.R k73 73 w' w0.heap.size (fun k_ => (P0_ k_ ∨ w.heap.size ≤ k_)) u9000_ x0_1) ∧ Aside0 (Kept w w' (fun k_ => P0_ k_)) ∧ Aside0 (Below w0.heap.size w0 w'))
 case atStart => exact ⟨(l0), (a1), (0), (by first | rfl | (simp; done) | (simp [*]; done)), (by first | rfl | (simp; done) | (simp [*]; done)), H', ⟨Nat.le_refl _⟩, ⟨by exact kr_ HO0.out⟩, ⟨by repeat (first | (with_reducible first | exact HK.out | apply Kept.alloc | apply Kept.drewN | apply Kept.drew) | exact HK.out)⟩, ⟨bl_⟩⟩
 clear H'
 try clear p2
 obtain ⟨x0_1, x1_1, x5_1, rfl, rfl, HA, HK1, HO_0, HK, HB⟩ := hrel
 cases gk with
 | zero => exact absurd HA.out (by simp [laws_markPromiseS.l0])
 | succ k1 => ?_
 have H := HA.out
 clear HA
 simp only [laws_markPromiseS.l0] at H
 by_cases c3 : x5_1 < (x0_1.length : Int)
 rotate_left
 ·rw [if_neg c3] at H
  have c3b0 : decide (x5_1 < (x0_1.length : Int)) = false := decide_eq_false c3
  clear c3
  simp only [Option.some.injEq, Prod.mk.injEq] at H
  obtain ⟨rfl, rfl⟩ := H
  obtain ⟨Ao17, co17, eo17⟩ := Kd.R_slice HO_0.out
  subst eo17
  go_wp2
  go_ret
  exact ⟨ng_, by exact kr_ HO_0.out, bl_, by repeat (first | (with_reducible first | exact HK.out | apply Kept.alloc | apply Kept.drewN | apply Kept.drew) | exact HK.out)⟩
 rw [if_pos c3] at H
 have c3b0 : decide (x5_1 < (x0_1.length : Int)) = true := decide_eq_true c3
 clear c3
 by_cases c4 : 0 ≤ x5_1
 rotate_left
 ·rw [if_neg c4] at H
  exact absurd H (by simp)
 rw [if_pos c4] at H
 have c4b0 : decide (0 ≤ x5_1) = true := decide_eq_true c4
 clear c4
 obtain ⟨y459, hy459⟩ : ∃ y_ : List (S73), y_ = (x0_1.set (x5_1 : Int).toNat (⟨x1_1, (rd_T73 x0_1 x5_1).f1, (rd_T73 x0_1 x5_1).f2⟩ : S73)) := ⟨_, rfl⟩
 replace H : ((some (y459.set (x5_1 : Int).toNat (⟨(rd_T73 y459 x5_1).f0, wrap64 (x1_1 + 1), (rd_T73 y459 x5_1).f2⟩ : S73) : List (S73))).bind fun y460 => ((laws_markText.f k1 (wrap64 ((wrap64 (x1_1 + 1)) + 1))).bind fun t461 => (laws_markPromiseS.l0 k1 (y460.set (x5_1 : Int).toNat (⟨(rd_T73 y460 x5_1).f0, (rd_T73 y460 x5_1).f1, t461⟩ : S73)) (wrap64 ((wrap64 ((wrap64 (x1_1 + 1)) + 1)) + 1)) (wrap64 (x5_1 + 1))))) = some (r1, r2) := by first | (rw [hy459]; with_reducible exact H) | (have H2_ := (Option.bind_some _ _).symm.trans H; rw [hy459]; with_reducible exact H2_) | (have H2_ := (Option.bind_some _ _).symm.trans H; with_reducible exact H2_) | with_reducible exact H | (rw [hy459]; exact H) | exact H
 have Ny459 := Aside0.mk hy459
 clear hy459
 obtain ⟨y460, hy460⟩ : ∃ y_ : List (S73), y_ = (y459.set (x5_1 : Int).toNat (⟨(rd_T73 y459 x5_1).f0, wrap64 (x1_1 + 1), (rd_T73 y459 x5_1).f2⟩ : S73)) := ⟨_, rfl⟩
 replace H : ((laws_markText.f k1 (wrap64 ((wrap64 (x1_1 + 1)) + 1))).bind fun t461 => (laws_markPromiseS.l0 k1 (y460.set (x5_1 : Int).toNat (⟨(rd_T73 y460 x5_1).f0, (rd_T73 y460 x5_1).f1, t461⟩ : S73)) (wrap64 ((wrap64 ((wrap64 (x1_1 + 1)) + 1)) + 1)) (wrap64 (x5_1 + 1)))) = some (r1, r2) := by first | (rw [hy460]; with_reducible exact H) | (have H2_ := (Option.bind_some _ _).symm.trans H; rw [hy460]; with_reducible exact H2_) | (have H2_ := (Option.bind_some _ _).symm.trans H; with_reducible exact H2_) | with_reducible exact H | (rw [hy460]; exact H) | exact H
 have Ny460 := Aside0.mk hy460
 clear hy460
 replace H := Option.bind_eq_some_iff.mp H
 obtain ⟨t461, A70, H⟩ := H
 replace H : (laws_markPromiseS.l0 k1 (y460.set (x5_1 : Int).toNat (⟨(rd_T73 y460 x5_1).f0, (rd_T73 y460 x5_1).f1, t461⟩ : S73)) (wrap64 ((wrap64 ((wrap64 (x1_1 + 1)) + 1)) + 1)) (wrap64 (x5_1 + 1))) = some (r1, r2) := H
 have A7 := Aside0.mk A70
 clear A70
 obtain ⟨y462, hy462⟩ : ∃ y_ : List (S73), y_ = (y460.set (x5_1 : Int).toNat (⟨(rd_T73 y460 x5_1).f0, (rd_T73 y460 x5_1).f1, t461⟩ : S73)) := ⟨_, rfl⟩
 replace H : (laws_markPromiseS.l0 k1 y462 (wrap64 ((wrap64 ((wrap64 (x1_1 + 1)) + 1)) + 1)) (wrap64 (x5_1 + 1))) = some (r1, r2) := by first | (rw [hy462]; with_reducible exact H) | (have H2_ := (Option.bind_some _ _).symm.trans H; rw [hy462]; with_reducible exact H2_) | (have H2_ := (Option.bind_some _ _).symm.trans H; with_reducible exact H2_) | with_reducible exact H | (rw [hy462]; exact H) | exact H
 have Ny462 := Aside0.mk hy462
 clear hy462
 have H' := Aside0.mk H
 clear H
 obtain ⟨Ao9, co9, eo9⟩ := Kd.R_slice HO_0.out
 subst eo9
 have p5 : 0 ≤ (x5_1 : Int) := of_decide_eq_true (by first | (with_reducible assumption) | assumption)
 have q5 : (x5_1 : Int) < ((x0_1.length : Int) : Int) := of_decide_eq_true (by first | (with_reducible assumption) | assumption)
 obtain ⟨go5, co5, eo5, gb5, gl5, cl5, HG5⟩ := Kd.R_form HO_0.out (by omega)
 (first | cases eo5 | (injection eo5 with ea_ en_ ec_; (first | subst ea_ | (injection ea_ with ea_; subst ea_)); subst ec_; clear en_))
 have GB5 := Aside0.mk gb5
 have GG5 := Aside0.mk HG5
 clear gb5 gl5 HG5
 have HMgo5 := Aside0.mk (show (P0_ go5 ∨ w.heap.size ≤ go5) from (HO_0.out.1 _ rfl))
 obtain ⟨ce5, hcl5, hM5, hcc5, hfr5⟩ := Kd.R_elem HO_0.out z73 (x5_1 : Int) p5 q5
 obtain rfl := k73_openM hM5
 have hx5_0 : wr.cell? ⟨go5, (x5_1 : Int).toNat * 3, none⟩ = some (.int .i64 ((rd_T73 x0_1 x5_1).f0)) := hcc5 0 _ rfl
 have hx5_1 : wr.cell? ⟨go5, (x5_1 : Int).toNat * 3 + 1, none⟩ = some (.int .i64 ((rd_T73 x0_1 x5_1).f1)) := hcc5 1 _ rfl
 have hx5_2 : wr.cell? ⟨go5, (x5_1 : Int).toNat * 3 + 2, none⟩ = some (.string ((rd_T73 x0_1 x5_1).f2)) := hcc5 2 _ rfl
 have hf5_0 : wr.frozen? ⟨go5, (x5_1 : Int).toNat * 3, none⟩ = false := hfr5 0
 have hf5_1 : wr.frozen? ⟨go5, (x5_1 : Int).toNat * 3 + 1, none⟩ = false := hfr5 1
 have hf5_2 : wr.frozen? ⟨go5, (x5_1 : Int).toNat * 3 + 2, none⟩ = false := hfr5 2
 clear hcl5 hcc5 hfr5 hM5
 replace p5 := eq_true p5
 replace q5 := eq_true q5
 have HX10 := Aside0.mk (show Kd.R k73 73 wr w0.heap.size (fun k_ => (P0_ k_ ∨ w.heap.size ≤ k_)) (.slice (some ⟨go5, 0, none⟩) x0_1.length co9) x0_1 from (kr_ HO_0.out))
 obtain ⟨ce10, hcl10, hM10, hcc10, hfr10⟩ := Kd.R_elem HX10.out z73 (x5_1 : Int) (of_decide_eq_true (by first | (with_reducible assumption) | assumption)) (by have h_ : (x5_1 : Int) < ((x0_1.length : Int) : Int) := of_decide_eq_true (by first | (with_reducible assumption) | assumption); first | exact h_ | (have e_ := (Kd.R_reads' HO_0.out).1; omega) | simpa using h_)
 obtain rfl := k73_openM hM10
 have HP10 := Kd.R_seg HX10.out (x5_1 : Int) (of_decide_eq_true (by first | (with_reducible assumption) | assumption)) (by have h_ : (x5_1 : Int) < ((x0_1.length : Int) : Int) := of_decide_eq_true (by first | (with_reducible assumption) | assumption); first | exact h_ | (have e_ := (Kd.R_reads' HO_0.out).1; omega) | simpa using h_) (seg := [.int .i64 x1_1]) (j := 0) hcl10 hcc10 (show 1 ≤ 3 from by decide) (x' := (⟨x1_1, (rd_T73 x0_1 x5_1).f1, (rd_T73 x0_1 x5_1).f2⟩ : S73)) (k73_mkM _ _ _ (⟨x1_1, (rd_T73 x0_1 x5_1).f1, (rd_T73 x0_1 x5_1).f2⟩ : S73) ) (fun _ hk => hk)
 have hx10_0 := hcc10 0 _ rfl
 (try simp only [show (k73).sz = 3 from rfl, Nat.mul_one, Nat.add_zero] at hx10_0)
 have hf10_0 := hfr10 0
 (try simp only [show (k73).sz = 3 from rfl, Nat.mul_one, Nat.add_zero] at hf10_0)
 clear hcl10 hcc10 hfr10 hM10
 go_wp2_with (first | ((with_reducible refine gate_store (t := 3) (p := 16) rfl ?_); refine store_event (t := 3) (p := 16) (v := ?vo_w11) (w1 := (wr.setCell ⟨go5, (x5_1 : Int).toNat * 3, none⟩ (.int .i64 x1_1))) ?hg ?ho ?hn ?hr ?_; (case ho => rfl); (case hg => rfl); (case hn => rfl); (case hr => first | (go_simp; done) | (go_simp; rfl)); intro w11 hw; have hg : wr.grownBy w11 (some go5) := (by rw [hw]; exact HP10.2); have hp_ : Kd.R k73 73 w11 w0.heap.size (fun k_ => (P0_ k_ ∨ w.heap.size ≤ k_)) (.slice (some ⟨go5, 0, none⟩) x0_1.length co9) y459 := (by rw [hw, Ny459.out]; exact HP10.1); clear HP10; replace HB := Aside0.mk ((by rw [hw]; exact below_set (HB.out) GB5.out : Below w0.heap.size w0 w11)); replace HK := Aside0.mk (Kept.of_grown (S := (fun k_ => P0_ k_)) hg (by repeat (first | (with_reducible first | exact HK.out | apply Kept.alloc | apply Kept.drewN | apply Kept.drew) | exact HK.out)) (fun k_ e_ => (HO_0.out.1 k_ e_))); replace HO_0 := Aside0.mk (hp_); clear hg hw hp_; have p6 : 0 ≤ (x5_1 : Int) := of_decide_eq_true (by first | (with_reducible assumption) | assumption); have q6 : (x5_1 : Int) < ((x0_1.length : Int) : Int) := of_decide_eq_true (by first | (with_reducible assumption) | assumption); obtain ⟨ce6, hcl6, hM6, hcc6, hfr6⟩ := Kd.R_elem HO_0.out z73 (x5_1 : Int) p6 q6; obtain rfl := k73_openM hM6; have hx6_0 : w11.cell? ⟨go5, (x5_1 : Int).toNat * 3, none⟩ = some (.int .i64 ((rd_T73 y459 x5_1).f0)) := hcc6 0 _ rfl; have hx6_1 : w11.cell? ⟨go5, (x5_1 : Int).toNat * 3 + 1, none⟩ = some (.int .i64 ((rd_T73 y459 x5_1).f1)) := hcc6 1 _ rfl; have hx6_2 : w11.cell? ⟨go5, (x5_1 : Int).toNat * 3 + 2, none⟩ = some (.string ((rd_T73 y459 x5_1).f2)) := hcc6 2 _ rfl; have hf6_0 : w11.frozen? ⟨go5, (x5_1 : Int).toNat * 3, none⟩ = false := hfr6 0; have hf6_1 : w11.frozen? ⟨go5, (x5_1 : Int).toNat * 3 + 1, none⟩ = false := hfr6 1; have hf6_2 : w11.frozen? ⟨go5, (x5_1 : Int).toNat * 3 + 2, none⟩ = false := hfr6 2; clear hcl6 hcc6 hfr6 hM6; replace p6 := eq_true p6; replace q6 := eq_true q6; have HX12 := Aside0.mk (show Kd.R k73 73 w11 w0.heap.size (fun k_ => (P0_ k_ ∨ w.heap.size ≤ k_)) (.slice (some ⟨go5, 0, none⟩) x0_1.length co9) y459 from (kr_ HO_0.out)); obtain ⟨ce12, hcl12, hM12, hcc12, hfr12⟩ := Kd.R_elem HX12.out z73 (x5_1 : Int) (of_decide_eq_true (by first | (with_reducible assumption) | assumption)) (by have h_ : (x5_1 : Int) < ((x0_1.length : Int) : Int) := of_decide_eq_true (by first | (with_reducible assumption) | assumption); first | exact h_ | (have e_ := (Kd.R_reads' HO_0.out).1; omega) | simpa using h_); obtain rfl := k73_openM hM12; have HP12 := Kd.R_seg HX12.out (x5_1 : Int) (of_decide_eq_true (by first | (with_reducible assumption) | assumption)) (by have h_ : (x5_1 : Int) < ((x0_1.length : Int) : Int) := of_decide_eq_true (by first | (with_reducible assumption) | assumption); first | exact h_ | (have e_ := (Kd.R_reads' HO_0.out).1; omega) | simpa using h_) (seg := [.int .i64 (wrap64 (x1_1 + 1))]) (j := 1) hcl12 hcc12 (show 2 ≤ 3 from by decide) (x' := (⟨(rd_T73 y459 x5_1).f0, wrap64 (x1_1 + 1), (rd_T73 y459 x5_1).f2⟩ : S73)) (k73_mkM _ _ _ (⟨(rd_T73 y459 x5_1).f0, wrap64 (x1_1 + 1), (rd_T73 y459 x5_1).f2⟩ : S73) ) (fun _ hk => hk); have hx12_1 := hcc12 1 _ rfl; (try simp only [show (k73).sz = 3 from rfl, Nat.mul_one, Nat.add_zero] at hx12_1); have hf12_1 := hfr12 1; (try simp only [show (k73).sz = 3 from rfl, Nat.mul_one, Nat.add_zero] at hf12_1); clear hcl12 hcc12 hfr12 hM12) | ((with_reducible refine gate_store (t := 3) (p := 23) rfl ?_); refine store_event (t := 3) (p := 23) (v := ?vo_w13) (w1 := (w11.setCell ⟨go5, (x5_1 : Int).toNat * 3 + 1, none⟩ (.int .i64 (wrap64 (x1_1 + 1))))) ?hg ?ho ?hn ?hr ?_; (case ho => rfl); (case hg => rfl); (case hn => rfl); (case hr => first | (go_simp; done) | (go_simp; rfl)); intro w13 hw; have hg : w11.grownBy w13 (some go5) := (by rw [hw]; exact HP12.2); have hp_ : Kd.R k73 73 w13 w0.heap.size (fun k_ => (P0_ k_ ∨ w.heap.size ≤ k_)) (.slice (some ⟨go5, 0, none⟩) x0_1.length co9) y460 := (by rw [hw, Ny460.out]; exact HP12.1); clear HP12; replace HB := Aside0.mk ((by rw [hw]; exact below_set (HB.out) GB5.out : Below w0.heap.size w0 w13)); replace HK := Aside0.mk (Kept.of_grown (S := (fun k_ => P0_ k_)) hg (by repeat (first | (with_reducible first | exact HK.out | apply Kept.alloc | apply Kept.drewN | apply Kept.drew) | exact HK.out)) (fun k_ e_ => (HO_0.out.1 k_ e_))); replace HO_0 := Aside0.mk (hp_); clear hg hw hp_) | ((with_reducible refine gate_callee (f := 37) rfl ?_); refine goesL_ (some 29) rfl rfl Try.func37 (by kernel_rfl) rfl #[.int .i64 (wrap64 ((wrap64 (x1_1 + 1)) + 1))] rfl nc_ ?_; (with_reducible refine (laws_markText.calls k1 (wrap64 ((wrap64 (x1_1 + 1)) + 1)) t461 _ A7.out).mono ?_); rintro e w14 ⟨rfl, hb⟩; refine ⟨_, rfl, ?_⟩; replace HO_0 := rb_ HO_0 hb; replace HK := Aside0.mk (Kept.below (S := (fun k_ => P0_ k_)) (by repeat (first | (with_reducible first | exact HK.out | apply Kept.alloc | apply Kept.drewN | apply Kept.drew) | exact HK.out)) hb); replace HB := Aside0.mk (below_step bl_ hb); clear hb; have p8 : 0 ≤ (x5_1 : Int) := of_decide_eq_true (by first | (with_reducible assumption) | assumption); have q8 : (x5_1 : Int) < ((x0_1.length : Int) : Int) := of_decide_eq_true (by first | (with_reducible assumption) | assumption); obtain ⟨ce8, hcl8, hM8, hcc8, hfr8⟩ := Kd.R_elem HO_0.out z73 (x5_1 : Int) p8 q8; obtain rfl := k73_openM hM8; have hx8_0 : w14.cell? ⟨go5, (x5_1 : Int).toNat * 3, none⟩ = some (.int .i64 ((rd_T73 y460 x5_1).f0)) := hcc8 0 _ rfl; have hx8_1 : w14.cell? ⟨go5, (x5_1 : Int).toNat * 3 + 1, none⟩ = some (.int .i64 ((rd_T73 y460 x5_1).f1)) := hcc8 1 _ rfl; have hx8_2 : w14.cell? ⟨go5, (x5_1 : Int).toNat * 3 + 2, none⟩ = some (.string ((rd_T73 y460 x5_1).f2)) := hcc8 2 _ rfl; have hf8_0 : w14.frozen? ⟨go5, (x5_1 : Int).toNat * 3, none⟩ = false := hfr8 0; have hf8_1 : w14.frozen? ⟨go5, (x5_1 : Int).toNat * 3 + 1, none⟩ = false := hfr8 1; have hf8_2 : w14.frozen? ⟨go5, (x5_1 : Int).toNat * 3 + 2, none⟩ = false := hfr8 2; clear hcl8 hcc8 hfr8 hM8; replace p8 := eq_true p8; replace q8 := eq_true q8; have HX15 := Aside0.mk (show Kd.R k73 73 w14 w0.heap.size (fun k_ => (P0_ k_ ∨ w.heap.size ≤ k_)) (.slice (some ⟨go5, 0, none⟩) x0_1.length co9) y460 from (kr_ HO_0.out)); obtain ⟨ce15, hcl15, hM15, hcc15, hfr15⟩ := Kd.R_elem HX15.out z73 (x5_1 : Int) (of_decide_eq_true (by first | (with_reducible assumption) | assumption)) (by have h_ : (x5_1 : Int) < ((x0_1.length : Int) : Int) := of_decide_eq_true (by first | (with_reducible assumption) | assumption); first | exact h_ | (have e_ := (Kd.R_reads' HO_0.out).1; omega) | simpa using h_); obtain rfl := k73_openM hM15; have HP15 := Kd.R_seg HX15.out (x5_1 : Int) (of_decide_eq_true (by first | (with_reducible assumption) | assumption)) (by have h_ : (x5_1 : Int) < ((x0_1.length : Int) : Int) := of_decide_eq_true (by first | (with_reducible assumption) | assumption); first | exact h_ | (have e_ := (Kd.R_reads' HO_0.out).1; omega) | simpa using h_) (seg := [.string t461]) (j := 2) hcl15 hcc15 (show 3 ≤ 3 from by decide) (x' := (⟨(rd_T73 y460 x5_1).f0, (rd_T73 y460 x5_1).f1, t461⟩ : S73)) (k73_mkM _ _ _ (⟨(rd_T73 y460 x5_1).f0, (rd_T73 y460 x5_1).f1, t461⟩ : S73) ) (fun _ hk => hk); have hx15_2 := hcc15 2 _ rfl; (try simp only [show (k73).sz = 3 from rfl, Nat.mul_one, Nat.add_zero] at hx15_2); have hf15_2 := hfr15 2; (try simp only [show (k73).sz = 3 from rfl, Nat.mul_one, Nat.add_zero] at hf15_2); clear hcl15 hcc15 hfr15 hM15) | ((with_reducible refine gate_store (t := 9) (p := 31) rfl ?_); refine store_event (t := 9) (p := 31) (v := ?vo_w16) (w1 := (w14.setCell ⟨go5, (x5_1 : Int).toNat * 3 + 2, none⟩ (.string t461))) ?hg ?ho ?hn ?hr ?_; (case ho => rfl); (case hg => rfl); (case hn => rfl); (case hr => first | (go_simp; done) | (go_simp; rfl)); intro w16 hw; have hg : w14.grownBy w16 (some go5) := (by rw [hw]; exact HP15.2); have hp_ : Kd.R k73 73 w16 w0.heap.size (fun k_ => (P0_ k_ ∨ w.heap.size ≤ k_)) (.slice (some ⟨go5, 0, none⟩) x0_1.length co9) y462 := (by rw [hw, Ny462.out]; exact HP15.1); clear HP15; replace HB := Aside0.mk ((by rw [hw]; exact below_set (HB.out) GB5.out : Below w0.heap.size w0 w16)); replace HK := Aside0.mk (Kept.of_grown (S := (fun k_ => P0_ k_)) hg (by repeat (first | (with_reducible first | exact HK.out | apply Kept.alloc | apply Kept.drewN | apply Kept.drew) | exact HK.out)) (fun k_ e_ => (HO_0.out.1 k_ e_))); replace HO_0 := Aside0.mk (hp_); clear hg hw hp_))
 go_roundg k1
 case measure => have := HK1.out; omega
 case rel => exact ⟨(y462), (wrap64 ((wrap64 ((wrap64 (x1_1 + 1)) + 1)) + 1)), (wrap64 (x5_1 + 1)), (by first | rfl | (simp; done) | (simp [*]; done)), (by first | rfl | (simp; done) | (simp [*]; done)), H', ⟨by have := HK1.out; omega⟩, ⟨by exact kr_ HO_0.out⟩, ⟨by repeat (first | (with_reducible first | exact HK.out | apply Kept.alloc | apply Kept.drewN | apply Kept.drew) | exact HK.out)⟩, ⟨bl_⟩⟩

/-! ### laws_markIntS: function 60 -/
def laws_markIntS.l0 : Nat → List Int → Int → Int → Option (Int × List Int)
 | 0, _, _, _ => none
 | k + 1, x0, x1, x5 => if x5 < (x0.length : Int) then (if 0 ≤ x5 then (laws_markIntS.l0 k (x0.set (x5 : Int).toNat x1) (wrap64 (x1 + 1)) (wrap64 (x5 + 1))) else (none)) else (some (x1, x0))
def laws_markIntS.f (k : Nat) (l0 : List Int) (a1 : Int) : Option (Int × List Int) := laws_markIntS.l0 k l0 a1 0
theorem laws_markIntS.mono_l : ∀ k, (∀ y0 y1 y2, LeO (laws_markIntS.l0 k y0 y1 y2) (laws_markIntS.l0 (k + 1) y0 y1 y2))
 | 0 => fun _ _ _ r h => by simp [laws_markIntS.l0] at h
 | k + 1 => by
  have ih0 := laws_markIntS.mono_l k
  ·intro y0 y1 y2
   unfold laws_markIntS.l0
   repeat' first
   | (with_reducible exact ih0 _ _ _)
   | (with_reducible exact LeO.refl _)
   | (with_reducible exact LeO.none _)
   | (with_reducible refine LeO.ite ?_ ?_)
   | (with_reducible refine LeO.bind ?_ (fun _ => ?_))
   | exact ih0 _ _ _
   | exact LeO.none _
   | refine LeO.ite ?_ ?_
   | refine LeO.bind ?_ (fun _ => ?_)
theorem laws_markIntS.mono : ∀ a0 a1 k, LeO (laws_markIntS.f k a0 a1) (laws_markIntS.f (k + 1) a0 a1) := by
 intro a0 a1 k
 have ih0 := laws_markIntS.mono_l k
 unfold laws_markIntS.f
 repeat' first
   | (with_reducible exact ih0 _ _ _)
   | (with_reducible exact LeO.refl _)
   | (with_reducible exact LeO.none _)
   | (with_reducible refine LeO.ite ?_ ?_)
   | (with_reducible refine LeO.bind ?_ (fun _ => ?_))
   | exact ih0 _ _ _
   | exact LeO.none _
   | refine LeO.ite ?_ ?_
   | refine LeO.bind ?_ (fun _ => ?_)
set_option maxHeartbeats 8000000 in
set_option maxRecDepth 100000 in
theorem laws_markIntS.calls (k : Nat) (P0_ : Nat → Prop) (u9000_ : Value) (l0 : List Int) (a1 : Int) (r1 : Int) (r2 : List Int) (w0 w : World) (hB : Below w0.heap.size w0 w) (ho0 : Kd.R (Kd.int .i64) 3 w w0.heap.size P0_ u9000_ l0) (h : laws_markIntS.f k l0 a1 = some (r1, r2)) :
  Calls Try.prog 60 #[u9000_, .int .i64 a1] w fun e w' => e = .returned (.int .i64 r1) ∧ Kd.R (Kd.int .i64) 3 w' w0.heap.size (fun k_ => (P0_ k_ ∨ w.heap.size ≤ k_)) u9000_ r2 ∧ Below w0.heap.size w0 w' ∧ Kept w w' (fun k_ => P0_ k_) := by
 have HO0 := Aside0.mk (show Kd.R (Kd.int .i64) 3 w w0.heap.size (fun k_ => (P0_ k_ ∨ w.heap.size ≤ k_)) u9000_ l0 from Kd.R_mono ho0 (fun k_ hk => (.inl hk)))
 have HK := Aside0.mk (Kept.refl w (fun k_ => P0_ k_))
 have HW0 := Aside0.mk hB.size
 have HB := Aside0.mk hB
 clear hB
 have H : (laws_markIntS.l0 k l0 a1 0) = some (r1, r2) := h
 clear h
 have H' := Aside0.mk H
 clear H
 go_enter Try.func60, Try.ntmps60
 go_wp2
 go_loopg [1, 5] k (fun kq v1 v5 w' => ∃ (x0_1 : List Int) (x1_1 : Int) (x5_1 : Int), v1 = .int .i64 x1_1 ∧ v5 = .int .i64 x5_1 ∧ Aside0 (laws_markIntS.l0 kq x0_1 x1_1 x5_1 = some (r1, r2)) ∧ Aside0 (kq ≤ k) ∧ Aside0 (Kd.R (Kd.int .i64) 3 w' w0.heap.size (fun k_ => (P0_ k_ ∨ w.heap.size ≤ k_)) u9000_ x0_1) ∧ Aside0 (Kept w w' (fun k_ => P0_ k_)) ∧ Aside0 (Below w0.heap.size w0 w'))
 case atStart => exact ⟨(l0), (a1), (0), (by first | rfl | (simp; done) | (simp [*]; done)), (by first | rfl | (simp; done) | (simp [*]; done)), H', ⟨Nat.le_refl _⟩, ⟨by exact kr_ HO0.out⟩, ⟨by repeat (first | (with_reducible first | exact HK.out | apply Kept.alloc | apply Kept.drewN | apply Kept.drew) | exact HK.out)⟩, ⟨bl_⟩⟩
 clear H'
 try clear p2
 obtain ⟨x0_1, x1_1, x5_1, rfl, rfl, HA, HK1, HO_0, HK, HB⟩ := hrel
 cases gk with
 | zero => exact absurd HA.out (by simp [laws_markIntS.l0])
 | succ k1 => ?_
 have H := HA.out
 clear HA
 simp only [laws_markIntS.l0] at H
 by_cases c3 : x5_1 < (x0_1.length : Int)
 rotate_left
 ·rw [if_neg c3] at H
  have c3b0 : decide (x5_1 < (x0_1.length : Int)) = false := decide_eq_false c3
  clear c3
  simp only [Option.some.injEq, Prod.mk.injEq] at H
  obtain ⟨rfl, rfl⟩ := H
  obtain ⟨Ao9, co9, eo9⟩ := Kd.R_slice HO_0.out
  subst eo9
  go_wp2
  go_ret
  exact ⟨ng_, by exact kr_ HO_0.out, bl_, by repeat (first | (with_reducible first | exact HK.out | apply Kept.alloc | apply Kept.drewN | apply Kept.drew) | exact HK.out)⟩
 rw [if_pos c3] at H
 have c3b0 : decide (x5_1 < (x0_1.length : Int)) = true := decide_eq_true c3
 clear c3
 by_cases c4 : 0 ≤ x5_1
 rotate_left
 ·rw [if_neg c4] at H
  exact absurd H (by simp)
 rw [if_pos c4] at H
 have c4b0 : decide (0 ≤ x5_1) = true := decide_eq_true c4
 clear c4
 obtain ⟨y463, hy463⟩ : ∃ y_ : List Int, y_ = (x0_1.set (x5_1 : Int).toNat x1_1) := ⟨_, rfl⟩
 replace H : (laws_markIntS.l0 k1 y463 (wrap64 (x1_1 + 1)) (wrap64 (x5_1 + 1))) = some (r1, r2) := by first | (rw [hy463]; with_reducible exact H) | (have H2_ := (Option.bind_some _ _).symm.trans H; rw [hy463]; with_reducible exact H2_) | (have H2_ := (Option.bind_some _ _).symm.trans H; with_reducible exact H2_) | with_reducible exact H | (rw [hy463]; exact H) | exact H
 have Ny463 := Aside0.mk hy463
 clear hy463
 have H' := Aside0.mk H
 clear H
 obtain ⟨Ao6, co6, eo6⟩ := Kd.R_slice HO_0.out
 subst eo6
 have p5 : 0 ≤ (x5_1 : Int) := of_decide_eq_true (by first | (with_reducible assumption) | assumption)
 have q5 : (x5_1 : Int) < ((x0_1.length : Int) : Int) := of_decide_eq_true (by first | (with_reducible assumption) | assumption)
 obtain ⟨go5, co5, eo5, gb5, gl5, cl5, HG5⟩ := Kd.R_form HO_0.out (by omega)
 (first | cases eo5 | (injection eo5 with ea_ en_ ec_; (first | subst ea_ | (injection ea_ with ea_; subst ea_)); subst ec_; clear en_))
 have GB5 := Aside0.mk gb5
 have GG5 := Aside0.mk HG5
 clear gb5 gl5 HG5
 have HMgo5 := Aside0.mk (show (P0_ go5 ∨ w.heap.size ≤ go5) from (HO_0.out.1 _ rfl))
 obtain ⟨hx5_0, hf5_0⟩ := Kd.R_celln 0 HO_0.out (x5_1 : Int) p5 q5
 replace p5 := eq_true p5
 replace q5 := eq_true q5
 have HP7 := Kd.R_putg HO_0.out (x5_1 : Int) x1_1
 go_wp2_with (first | ((with_reducible refine gate_store (t := 3) (p := 15) rfl ?_); refine store_event (t := 3) (p := 15) (v := ?vo_w8) (w1 := (wr.setCell ⟨go5, (x5_1 : Int).toNat, none⟩ (.int .i64 x1_1))) ?hg ?ho ?hn ?hr ?_; (case ho => rfl); (case hg => rfl); (case hn => rfl); (case hr => first | (go_simp; done) | (go_simp; rfl)); intro w8 hw; have hg : wr.grownBy w8 (some go5) := (by rw [hw]; exact HP7.2); have hp_ : Kd.R (Kd.int .i64) 3 w8 w0.heap.size (fun k_ => (P0_ k_ ∨ w.heap.size ≤ k_)) (.slice (some ⟨go5, 0, none⟩) x0_1.length co6) y463 := (by rw [hw, Ny463.out]; exact HP7.1); clear HP7; replace HB := Aside0.mk ((by rw [hw]; exact below_set (HB.out) GB5.out : Below w0.heap.size w0 w8)); replace HK := Aside0.mk (Kept.of_grown (S := (fun k_ => P0_ k_)) hg (by repeat (first | (with_reducible first | exact HK.out | apply Kept.alloc | apply Kept.drewN | apply Kept.drew) | exact HK.out)) (fun k_ e_ => (HO_0.out.1 k_ e_))); replace HO_0 := Aside0.mk (hp_); clear hg hw hp_))
 go_roundg k1
 case measure => have := HK1.out; omega
 case rel => exact ⟨(y463), (wrap64 (x1_1 + 1)), (wrap64 (x5_1 + 1)), (by first | rfl | (simp; done) | (simp [*]; done)), (by first | rfl | (simp; done) | (simp [*]; done)), H', ⟨by have := HK1.out; omega⟩, ⟨by exact kr_ HO_0.out⟩, ⟨by repeat (first | (with_reducible first | exact HK.out | apply Kept.alloc | apply Kept.drewN | apply Kept.drew) | exact HK.out)⟩, ⟨bl_⟩⟩

/-! ### laws_markStringS: function 14 -/
def laws_markStringS.l0 : Nat → List ByteArray → Int → Int → Option (Int × List ByteArray)
 | 0, _, _, _ => none
 | k + 1, x0, x1, x5 => if x5 < (x0.length : Int) then ((laws_markText.f k x1).bind fun t468 => (if 0 ≤ x5 then (laws_markStringS.l0 k (x0.set (x5 : Int).toNat t468) (wrap64 (x1 + 1)) (wrap64 (x5 + 1))) else (none))) else (some (x1, x0))
def laws_markStringS.f (k : Nat) (l0 : List ByteArray) (a1 : Int) : Option (Int × List ByteArray) := laws_markStringS.l0 k l0 a1 0
theorem laws_markStringS.mono_l : ∀ k, (∀ y0 y1 y2, LeO (laws_markStringS.l0 k y0 y1 y2) (laws_markStringS.l0 (k + 1) y0 y1 y2))
 | 0 => fun _ _ _ r h => by simp [laws_markStringS.l0] at h
 | k + 1 => by
  have ih0 := laws_markStringS.mono_l k
  ·intro y0 y1 y2
   unfold laws_markStringS.l0
   repeat' first
   | (with_reducible exact ih0 _ _ _)
   | (with_reducible exact laws_markText.mono _ _)
   | (with_reducible exact LeO.refl _)
   | (with_reducible exact LeO.none _)
   | (with_reducible refine LeO.ite ?_ ?_)
   | (with_reducible refine LeO.bind ?_ (fun _ => ?_))
   | exact ih0 _ _ _
   | exact laws_markText.mono _ _
   | exact LeO.none _
   | refine LeO.ite ?_ ?_
   | refine LeO.bind ?_ (fun _ => ?_)
theorem laws_markStringS.mono : ∀ a0 a1 k, LeO (laws_markStringS.f k a0 a1) (laws_markStringS.f (k + 1) a0 a1) := by
 intro a0 a1 k
 have ih0 := laws_markStringS.mono_l k
 unfold laws_markStringS.f
 repeat' first
   | (with_reducible exact ih0 _ _ _)
   | (with_reducible exact laws_markText.mono _ _)
   | (with_reducible exact LeO.refl _)
   | (with_reducible exact LeO.none _)
   | (with_reducible refine LeO.ite ?_ ?_)
   | (with_reducible refine LeO.bind ?_ (fun _ => ?_))
   | exact ih0 _ _ _
   | exact laws_markText.mono _ _
   | exact LeO.none _
   | refine LeO.ite ?_ ?_
   | refine LeO.bind ?_ (fun _ => ?_)
set_option maxHeartbeats 8000000 in
set_option maxRecDepth 100000 in
theorem laws_markStringS.calls (k : Nat) (P0_ : Nat → Prop) (u9000_ : Value) (l0 : List ByteArray) (a1 : Int) (r1 : Int) (r2 : List ByteArray) (w0 w : World) (hB : Below w0.heap.size w0 w) (ho0 : Kd.R Kd.string 9 w w0.heap.size P0_ u9000_ l0) (h : laws_markStringS.f k l0 a1 = some (r1, r2)) :
  Calls Try.prog 14 #[u9000_, .int .i64 a1] w fun e w' => e = .returned (.int .i64 r1) ∧ Kd.R Kd.string 9 w' w0.heap.size (fun k_ => (P0_ k_ ∨ w.heap.size ≤ k_)) u9000_ r2 ∧ Below w0.heap.size w0 w' ∧ Kept w w' (fun k_ => P0_ k_) := by
 have HO0 := Aside0.mk (show Kd.R Kd.string 9 w w0.heap.size (fun k_ => (P0_ k_ ∨ w.heap.size ≤ k_)) u9000_ l0 from Kd.R_mono ho0 (fun k_ hk => (.inl hk)))
 have HK := Aside0.mk (Kept.refl w (fun k_ => P0_ k_))
 have HW0 := Aside0.mk hB.size
 have HB := Aside0.mk hB
 clear hB
 have H : (laws_markStringS.l0 k l0 a1 0) = some (r1, r2) := h
 clear h
 have H' := Aside0.mk H
 clear H
 go_enter Try.func14, Try.ntmps14
 go_wp2
 go_loopg [1, 5] k (fun kq v1 v5 w' => ∃ (x0_1 : List ByteArray) (x1_1 : Int) (x5_1 : Int), v1 = .int .i64 x1_1 ∧ v5 = .int .i64 x5_1 ∧ Aside0 (laws_markStringS.l0 kq x0_1 x1_1 x5_1 = some (r1, r2)) ∧ Aside0 (kq ≤ k) ∧ Aside0 (Kd.R Kd.string 9 w' w0.heap.size (fun k_ => (P0_ k_ ∨ w.heap.size ≤ k_)) u9000_ x0_1) ∧ Aside0 (Kept w w' (fun k_ => P0_ k_)) ∧ Aside0 (Below w0.heap.size w0 w'))
 case atStart => exact ⟨(l0), (a1), (0), (by first | rfl | (simp; done) | (simp [*]; done)), (by first | rfl | (simp; done) | (simp [*]; done)), H', ⟨Nat.le_refl _⟩, ⟨by exact kr_ HO0.out⟩, ⟨by repeat (first | (with_reducible first | exact HK.out | apply Kept.alloc | apply Kept.drewN | apply Kept.drew) | exact HK.out)⟩, ⟨bl_⟩⟩
 clear H'
 try clear c1
 try clear p2
 obtain ⟨x0_1, x1_1, x5_1, rfl, rfl, HA, HK1, HO_0, HK, HB⟩ := hrel
 cases gk with
 | zero => exact absurd HA.out (by simp [laws_markStringS.l0])
 | succ k1 => ?_
 have H := HA.out
 clear HA
 simp only [laws_markStringS.l0] at H
 by_cases c3 : x5_1 < (x0_1.length : Int)
 rotate_left
 ·rw [if_neg c3] at H
  have c3b0 : decide (x5_1 < (x0_1.length : Int)) = false := decide_eq_false c3
  clear c3
  simp only [Option.some.injEq, Prod.mk.injEq] at H
  obtain ⟨rfl, rfl⟩ := H
  obtain ⟨Ao11, co11, eo11⟩ := Kd.R_slice HO_0.out
  subst eo11
  go_wp2
  go_ret
  exact ⟨ng_, by exact kr_ HO_0.out, bl_, by repeat (first | (with_reducible first | exact HK.out | apply Kept.alloc | apply Kept.drewN | apply Kept.drew) | exact HK.out)⟩
 rw [if_pos c3] at H
 have c3b0 : decide (x5_1 < (x0_1.length : Int)) = true := decide_eq_true c3
 clear c3
 replace H := Option.bind_eq_some_iff.mp H
 obtain ⟨t468, A40, H⟩ := H
 replace H : (if 0 ≤ x5_1 then (laws_markStringS.l0 k1 (x0_1.set (x5_1 : Int).toNat t468) (wrap64 (x1_1 + 1)) (wrap64 (x5_1 + 1))) else (none)) = some (r1, r2) := H
 have A4 := Aside0.mk A40
 clear A40
 by_cases c5 : 0 ≤ x5_1
 rotate_left
 ·rw [if_neg c5] at H
  exact absurd H (by simp)
 rw [if_pos c5] at H
 have c5b0 : decide (0 ≤ x5_1) = true := decide_eq_true c5
 clear c5
 obtain ⟨y469, hy469⟩ : ∃ y_ : List ByteArray, y_ = (x0_1.set (x5_1 : Int).toNat t468) := ⟨_, rfl⟩
 replace H : (laws_markStringS.l0 k1 y469 (wrap64 (x1_1 + 1)) (wrap64 (x5_1 + 1))) = some (r1, r2) := by first | (rw [hy469]; with_reducible exact H) | (have H2_ := (Option.bind_some _ _).symm.trans H; rw [hy469]; with_reducible exact H2_) | (have H2_ := (Option.bind_some _ _).symm.trans H; with_reducible exact H2_) | with_reducible exact H | (rw [hy469]; exact H) | exact H
 have Ny469 := Aside0.mk hy469
 clear hy469
 have H' := Aside0.mk H
 clear H
 obtain ⟨Ao7, co7, eo7⟩ := Kd.R_slice HO_0.out
 subst eo7
 go_wp2_with (first | ((with_reducible refine gate_callee (f := 37) rfl ?_); refine goesL_ (some 15) rfl rfl Try.func37 (by kernel_rfl) rfl #[.int .i64 x1_1] rfl nc_ ?_; (with_reducible refine (laws_markText.calls k1 x1_1 t468 _ A4.out).mono ?_); rintro e w8 ⟨rfl, hb⟩; refine ⟨_, rfl, ?_⟩; replace HO_0 := rb_ HO_0 hb; replace HK := Aside0.mk (Kept.below (S := (fun k_ => P0_ k_)) (by repeat (first | (with_reducible first | exact HK.out | apply Kept.alloc | apply Kept.drewN | apply Kept.drew) | exact HK.out)) hb); replace HB := Aside0.mk (below_step bl_ hb); clear hb; have p6 : 0 ≤ (x5_1 : Int) := of_decide_eq_true (by first | (with_reducible assumption) | assumption); have q6 : (x5_1 : Int) < ((x0_1.length : Int) : Int) := of_decide_eq_true (by first | (with_reducible assumption) | assumption); obtain ⟨go6, co6, eo6, gb6, gl6, cl6, HG6⟩ := Kd.R_form HO_0.out (by omega); (first | cases eo6 | (injection eo6 with ea_ en_ ec_; (first | subst ea_ | (injection ea_ with ea_; subst ea_)); subst ec_; clear en_)); have GB6 := Aside0.mk gb6; have GG6 := Aside0.mk HG6; clear gb6 gl6 HG6; have HMgo6 := Aside0.mk (show (P0_ go6 ∨ w.heap.size ≤ go6) from (HO_0.out.1 _ rfl)); obtain ⟨hx6_0, hf6_0⟩ := Kd.R_celln (⟨#[]⟩ : ByteArray) HO_0.out (x5_1 : Int) p6 q6; replace p6 := eq_true p6; replace q6 := eq_true q6; obtain ⟨hy9_, hz9_⟩ := Kd.R_celln (⟨#[]⟩ : ByteArray) HO_0.out (x5_1 : Int) (of_decide_eq_true (by first | (with_reducible assumption) | assumption)) (of_decide_eq_true (by first | (with_reducible assumption) | assumption)); have HP9 := Kd.R_putg HO_0.out (x5_1 : Int) t468) | ((with_reducible refine gate_store (t := 9) (p := 16) rfl ?_); refine store_event (t := 9) (p := 16) (v := ?vo_w10) (w1 := (w8.setCell ⟨go6, (x5_1 : Int).toNat, none⟩ (.string t468))) ?hg ?ho ?hn ?hr ?_; (case ho => rfl); (case hg => rfl); (case hn => rfl); (case hr => first | (go_simp; done) | (go_simp; rfl)); intro w10 hw; have hg : w8.grownBy w10 (some go6) := (by rw [hw]; exact HP9.2); have hp_ : Kd.R Kd.string 9 w10 w0.heap.size (fun k_ => (P0_ k_ ∨ w.heap.size ≤ k_)) (.slice (some ⟨go6, 0, none⟩) x0_1.length co7) y469 := (by rw [hw, Ny469.out]; exact HP9.1); clear HP9; replace HB := Aside0.mk ((by rw [hw]; exact below_set (HB.out) GB6.out : Below w0.heap.size w0 w10)); replace HK := Aside0.mk (Kept.of_grown (S := (fun k_ => P0_ k_)) hg (by repeat (first | (with_reducible first | exact HK.out | apply Kept.alloc | apply Kept.drewN | apply Kept.drew) | exact HK.out)) (fun k_ e_ => (HO_0.out.1 k_ e_))); replace HO_0 := Aside0.mk (hp_); clear hg hw hp_))
 go_roundg k1
 case measure => have := HK1.out; omega
 case rel => exact ⟨(y469), (wrap64 (x1_1 + 1)), (wrap64 (x5_1 + 1)), (by first | rfl | (simp; done) | (simp [*]; done)), (by first | rfl | (simp; done) | (simp [*]; done)), H', ⟨by have := HK1.out; omega⟩, ⟨by exact kr_ HO_0.out⟩, ⟨by repeat (first | (with_reducible first | exact HK.out | apply Kept.alloc | apply Kept.drewN | apply Kept.drew) | exact HK.out)⟩, ⟨bl_⟩⟩

/-! ### laws_heldStringS: function 15 -/
def laws_heldStringS.l0 : Nat → List ByteArray → Int → Int → Option (Int)
 | 0, _, _, _ => none
 | k + 1, x0, x1, x5 => if x5 < (x0.length : Int) then (if 0 ≤ x5 then ((laws_markText.f k x1).bind fun t471 => (if (rdOf ByteArray.empty x0 x5).toList = t471.toList then (laws_heldStringS.l0 k x0 (wrap64 (x1 + 1)) (wrap64 (x5 + 1))) else (some (-1)))) else (none)) else (some x1)
def laws_heldStringS.f (k : Nat) (l0 : List ByteArray) (a1 : Int) : Option (Int) := laws_heldStringS.l0 k l0 a1 0
theorem laws_heldStringS.mono_l : ∀ k, (∀ y0 y1 y2, LeO (laws_heldStringS.l0 k y0 y1 y2) (laws_heldStringS.l0 (k + 1) y0 y1 y2))
 | 0 => fun _ _ _ r h => by simp [laws_heldStringS.l0] at h
 | k + 1 => by
  have ih0 := laws_heldStringS.mono_l k
  ·intro y0 y1 y2
   unfold laws_heldStringS.l0
   repeat' first
   | (with_reducible exact ih0 _ _ _)
   | (with_reducible exact laws_markText.mono _ _)
   | (with_reducible exact LeO.refl _)
   | (with_reducible exact LeO.none _)
   | (with_reducible refine LeO.ite ?_ ?_)
   | (with_reducible refine LeO.bind ?_ (fun _ => ?_))
   | exact ih0 _ _ _
   | exact laws_markText.mono _ _
   | exact LeO.none _
   | refine LeO.ite ?_ ?_
   | refine LeO.bind ?_ (fun _ => ?_)
theorem laws_heldStringS.mono : ∀ a0 a1 k, LeO (laws_heldStringS.f k a0 a1) (laws_heldStringS.f (k + 1) a0 a1) := by
 intro a0 a1 k
 have ih0 := laws_heldStringS.mono_l k
 unfold laws_heldStringS.f
 repeat' first
   | (with_reducible exact ih0 _ _ _)
   | (with_reducible exact laws_markText.mono _ _)
   | (with_reducible exact LeO.refl _)
   | (with_reducible exact LeO.none _)
   | (with_reducible refine LeO.ite ?_ ?_)
   | (with_reducible refine LeO.bind ?_ (fun _ => ?_))
   | exact ih0 _ _ _
   | exact laws_markText.mono _ _
   | exact LeO.none _
   | refine LeO.ite ?_ ?_
   | refine LeO.bind ?_ (fun _ => ?_)
set_option maxHeartbeats 8000000 in
set_option maxRecDepth 100000 in
theorem laws_heldStringS.calls (k : Nat) (A0 : Option Addr) (c0 : Nat) (l0 : List ByteArray) (a1 : Int) (r : Int) (w : World) (hr0 : Kd.C Kd.string w A0 l0.length l0) (hc0 : l0.length ≤ c0) (h : laws_heldStringS.f k l0 a1 = some r) :
  Calls Try.prog 15 #[.slice A0 l0.length c0, .int .i64 a1] w fun e w' => e = .returned (.int .i64 r) ∧ Below w.heap.size w w' := by
 have HR0 := Aside0.mk hr0
 have HC0 := Aside0.mk hc0
 clear hr0 hc0
 have HB := Aside0.mk (Below.refl w.heap.size w)
 have H : (laws_heldStringS.l0 k l0 a1 0) = some r := h
 clear h
 have H' := Aside0.mk H
 clear H
 go_enter Try.func15, Try.ntmps15
 go_wp2
 go_loopg [1, 5] k (fun kq v1 v5 w' => ∃ (x1_1 : Int) (x5_1 : Int), v1 = .int .i64 x1_1 ∧ v5 = .int .i64 x5_1 ∧ Aside0 (laws_heldStringS.l0 kq l0 x1_1 x5_1 = some r) ∧ Aside0 (kq ≤ k) ∧ Aside0 (Below w.heap.size w w'))
 case atStart => exact ⟨(a1), (0), (by first | rfl | (simp; done) | (simp [*]; done)), (by first | rfl | (simp; done) | (simp [*]; done)), H', ⟨Nat.le_refl _⟩, ⟨bl_⟩⟩
 clear H'
 try clear c1
 try clear p2
 obtain ⟨x1_1, x5_1, rfl, rfl, HA, HK1, HB⟩ := hrel
 cases gk with
 | zero => exact absurd HA.out (by simp [laws_heldStringS.l0])
 | succ k1 => ?_
 have H := HA.out
 clear HA
 simp only [laws_heldStringS.l0] at H
 by_cases c3 : x5_1 < (l0.length : Int)
 rotate_left
 ·rw [if_neg c3] at H
  have c3b0 : decide (x5_1 < (l0.length : Int)) = false := decide_eq_false c3
  clear c3
  obtain rfl := Option.some.inj H
  go_wp2
  go_ret
  exact ⟨ng_, bl_⟩
 rw [if_pos c3] at H
 have c3b0 : decide (x5_1 < (l0.length : Int)) = true := decide_eq_true c3
 clear c3
 by_cases c4 : 0 ≤ x5_1
 rotate_left
 ·rw [if_neg c4] at H
  exact absurd H (by simp)
 rw [if_pos c4] at H
 have c4b0 : decide (0 ≤ x5_1) = true := decide_eq_true c4
 clear c4
 replace H := Option.bind_eq_some_iff.mp H
 obtain ⟨t471, A50, H⟩ := H
 replace H : (if (rdOf ByteArray.empty l0 x5_1).toList = t471.toList then (laws_heldStringS.l0 k1 l0 (wrap64 (x1_1 + 1)) (wrap64 (x5_1 + 1))) else (some (-1))) = some r := H
 have A5 := Aside0.mk A50
 clear A50
 by_cases c6 : (rdOf ByteArray.empty l0 x5_1).toList = t471.toList
 rotate_left
 ·rw [if_neg c6] at H
  have c6b0 : ((rdOf ByteArray.empty l0 x5_1).toList == t471.toList) = false := beq_eq_false_iff_ne.mpr c6
  have c6b1 : ((rdOf ByteArray.empty l0 x5_1).toList != t471.toList) = true := bne_iff_ne.mpr c6
  obtain rfl := Option.some.inj H
  try go_wp2
  replace HB := Aside0.mk (below_drew1 HB.out)
  have p470 : 0 ≤ (x5_1 : Int) := of_decide_eq_true (by first | (with_reducible assumption) | assumption)
  have q470 : x5_1 < (l0.length : Int) := of_decide_eq_true (by first | (with_reducible assumption) | assumption)
  obtain ⟨ad470, e470, hx470_0⟩ := Kd.at_string HR0.out x5_1 p470 q470
  have hw470_0 := hx470_0
  cases e470
  replace hx470_0 := (HB.out.cell (World.block_lt_of_cell? w _ hx470_0)).trans hx470_0
  replace p470 := eq_true p470
  replace q470 := eq_true q470
  refine start_ (n := 7) (S := fun w' => w'.cell? (ad470.add (x5_1).toNat) = some (.string (rdOf ByteArray.empty l0 x5_1))) (ds := []) #[false, false, false, false, false, false, false] (by kernel_rfl) rfl rfl (((HB.out.cell (World.block_lt_of_cell? w _ hw470_0)).trans hw470_0)) (fun hHeld => ?_)
  generalize wr.drew = w9 at HB hx470_0 hHeld ⊢
  refine pu_ 0 (some 12) (h := ?_)
  refine pu_ 1 (some 13) (h := ?_)
  refine pu_ 2 (some 14) (h := ?_)
  refine pu_ 4 (some 16) (h := ?_)
  refine tk1_ 3 (some 15) (h := ?_)
  refine on_ 5 (some 17) (h := fun K hK => ?_)
  refine goes_ Try.func37 (by kernel_rfl) rfl #[.int .i64 x1_1] (by rfl) rfl rfl nc_ ?_
  with_reducible refine (laws_markText.calls k1 x1_1 t471 _ A5.out).mono ?_
  rintro e w10 ⟨rfl, hb⟩
  refine ⟨_, rfl, ?_⟩
  replace HB := Aside0.mk (below_step bl_ hb)
  clear hb
  refine hK.out _ _ (((HB.out.cell (World.block_lt_of_cell? w _ hw470_0)).trans hw470_0)) (fun hHeld => ?_)
  clear hK K
  refine norm_ nn_ ?_
  refine pu_ 6 (some 18) (h := ?_)
  refine done_ (by kernel_rfl) ?_
  try go_wp2
  go_ret
  exact ⟨ng_, bl_⟩
 rw [if_pos c6] at H
 have c6b0 : ((rdOf ByteArray.empty l0 x5_1).toList == t471.toList) = true := beq_iff_eq.mpr c6
 have c6b1 : ((rdOf ByteArray.empty l0 x5_1).toList != t471.toList) = false := bne_eq_false_iff_eq.mpr c6
 clear c6
 have H' := Aside0.mk H
 clear H
 try go_wp2
 replace HB := Aside0.mk (below_drew1 HB.out)
 have p470 : 0 ≤ (x5_1 : Int) := of_decide_eq_true (by first | (with_reducible assumption) | assumption)
 have q470 : x5_1 < (l0.length : Int) := of_decide_eq_true (by first | (with_reducible assumption) | assumption)
 obtain ⟨ad470, e470, hx470_0⟩ := Kd.at_string HR0.out x5_1 p470 q470
 have hw470_0 := hx470_0
 cases e470
 replace hx470_0 := (HB.out.cell (World.block_lt_of_cell? w _ hx470_0)).trans hx470_0
 replace p470 := eq_true p470
 replace q470 := eq_true q470
 refine start_ (n := 7) (S := fun w' => w'.cell? (ad470.add (x5_1).toNat) = some (.string (rdOf ByteArray.empty l0 x5_1))) (ds := []) #[false, false, false, false, false, false, false] (by kernel_rfl) rfl rfl (((HB.out.cell (World.block_lt_of_cell? w _ hw470_0)).trans hw470_0)) (fun hHeld => ?_)
 generalize wr.drew = w7 at HB hx470_0 hHeld ⊢
 refine pu_ 0 (some 12) (h := ?_)
 refine pu_ 1 (some 13) (h := ?_)
 refine pu_ 2 (some 14) (h := ?_)
 refine pu_ 4 (some 16) (h := ?_)
 refine tk1_ 3 (some 15) (h := ?_)
 refine on_ 5 (some 17) (h := fun K hK => ?_)
 refine goes_ Try.func37 (by kernel_rfl) rfl #[.int .i64 x1_1] (by rfl) rfl rfl nc_ ?_
 with_reducible refine (laws_markText.calls k1 x1_1 t471 _ A5.out).mono ?_
 rintro e w8 ⟨rfl, hb⟩
 refine ⟨_, rfl, ?_⟩
 replace HB := Aside0.mk (below_step bl_ hb)
 clear hb
 refine hK.out _ _ (((HB.out.cell (World.block_lt_of_cell? w _ hw470_0)).trans hw470_0)) (fun hHeld => ?_)
 clear hK K
 refine norm_ nn_ ?_
 refine pu_ 6 (some 18) (h := ?_)
 refine done_ (by kernel_rfl) ?_
 try go_wp2
 go_roundg k1
 case measure => have := HK1.out; omega
 case rel => exact ⟨(wrap64 (x1_1 + 1)), (wrap64 (x5_1 + 1)), (by first | rfl | (simp; done) | (simp [*]; done)), (by first | rfl | (simp; done) | (simp [*]; done)), H', ⟨by have := HK1.out; omega⟩, ⟨bl_⟩⟩

end Go.Proofs.Ytjpaoeeeiklfnaa.PSY
