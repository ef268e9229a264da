-- Written by a program of this seat, over a copy of the print; parts by hand.
import Derived.Test.YtoloneoeojoiaaaELexTellsx0
import Derived.Test.YtoloneoeojoiaaaELexTellsx2
import Derived.Test.YtoloneoeojoiaaaELexTellsx3
import Derived.Test.YtoloneoeojoiaaaELexTellsx5
import Derived.Test.YtoloneoeojoiaaaELexTellsx7
namespace Go.Proofs.Ytoloneoeojoiaaa.ELexTells
open Go.RowKit Go.Proofs.YtoloneoeojoiaaaW.PrintWords Go.Proofs.YtoloneoeojoiaaaW.PrintLast Go.Proofs.YtoloneoeojoiaaaW.PrintMore
attribute [local go_sem] max2_int min2_int max_two min_two max_three min_three max_four min_four   -- for this text's walks alone
set_option linter.unusedVariables false
set_option linter.unusedSimpArgs false

-- by hand: lexnum.inc
/-- A number's digits, read on from n. -/
def numS : Int → List UInt8 → Int
  | n, [] => n
  | n, c :: t => numS (wrap64 (wrap64 (10 * n) + ((c.toNat : Int) - 48) % 256)) t
def numT (t : S31) : Int × Int := if checkT t = 0 then (if t.f0 = 2 then (numS 0 t.f1.data.toList, 0) else (0, 23)) else (0, checkT t)
def lex_Number.f (a0_0 : Int) (a0_1 : ByteArray) (a0_2 : Int) : Option (Int × Int) := some (numT ⟨a0_0, a0_1, a0_2⟩)
theorem check_f (t : S31) : lex_Check.f t.f0 t.f1 t.f2 = some (checkT t) := rfl
set_option maxRecDepth 100000 in
set_option maxHeartbeats 2000000 in
theorem lex_Number.calls (a0_0 : Int) (a0_1 : ByteArray) (a0_2 : Int) (r0 r1 : Int) (w : World) (h : lex_Number.f a0_0 a0_1 a0_2 = some (r0, r1)) :
    Calls Try.prog 28 #[.agg #[.int .i64 a0_0, .string a0_1, .int .i64 a0_2]] w fun e w' => e = .returned (.tuple #[.int .i64 r0, .int .i64 r1]) ∧ Below w.heap.size w w' := by
  have hu31 := Try.underlying31
  have h := Option.some.inj h
  unfold numT at h
  simp only [] at h
  obtain ⟨k, hk⟩ : ∃ k, k = checkT ⟨a0_0, a0_1, a0_2⟩ := ⟨_, rfl⟩
  have HK : Aside0 (lex_Check.f a0_0 a0_1 a0_2 = some k) := ⟨by rw [hk]; rfl⟩
  rw [← hk] at h
  have hsz : k = 0 → a0_1.size ≤ 65536 := by
    intro h0
    rw [hk] at h0
    unfold checkT tokF at h0
    simp only [] at h0
    apply Classical.byContradiction
    intro hn
    rw [if_pos (show (a0_1.size : Int) > 65536 by omega)] at h0
    split at h0
    · exact absurd h0 (by decide)
    · split at h0
      · exact absurd h0 (by decide)
      · rw [if_pos (by decide)] at h0; exact absurd h0 (by decide)
  have HSZ := Aside0.mk hsz
  clear hk hsz
  have HX0 := Aside0.mk (heap_alloc_new w (.cells #[.int .i64 a0_0, .string a0_1, .int .i64 a0_2] 31 (0, 0)))
  have HBW := Aside0.mk (below_alloc (Below.refl w.heap.size w) (.cells #[.int .i64 a0_0, .string a0_1, .int .i64 a0_2] 31 (0, 0)))
  have y0 := zcell HX0.out 0 (.int .i64 a0_0) rfl
  have y1 := zcell HX0.out 1 (.string a0_1) rfl
  have y2 := zcell HX0.out 2 (.int .i64 a0_2) rfl
  by_cases c0 : k = 0
  · subst c0
    rw [if_pos rfl] at h
    by_cases c1 : a0_0 = 2
    · subst c1
      rw [if_pos rfl] at h
      injection h with h1 h2
      subst h2
      have HQ := Aside0.mk h1
      clear h1
      obtain ⟨s, rfl⟩ : ∃ s, a0_1 = txt s := ⟨a0_1.data.toList, (txt_data a0_1).symm⟩
      have hs : s.length ≤ 65536 := by have := HSZ.out rfl; rwa [txt_size] at this
      have HQ2 : Aside0 (numS 0 (s.drop 0) = r0) := ⟨by have := HQ.out; rwa [txt_list] at this⟩
      obtain ⟨l, hl⟩ : ∃ l, l = bytesOf (txt s) := ⟨_, rfl⟩
      have hn : (txt s).size = l.length := by rw [hl, bytesOf_length]
      have kb : ∀ W, (convert 9 99 (.string (txt s))).run Try.prog W = .ok (.slice (some ⟨W.heap.size, 0, none⟩) l.length (grownCap W l.length 0 5)) (Lib.bytesWorld W 5 (txt s)) := fun W => by
        have := print_bytes (P := Try.prog) 9 99 5 Try.underlying9 Try.underlying99 Try.underlying5 (txt s) W
        rw [hn] at this; exact this
      have hr : ∀ W, Kd.C (Kd.int .u8) (Lib.bytesWorld W 5 (txt s)) (some ⟨W.heap.size, 0, none⟩) l.length l := fun W => by
        have := bytes_reads W 5 (txt s) (by rw [txt_size]; omega)
        rw [hn, ← hl] at this
        exact Kd.C_of_reads (d := (0 : Int)) (h1 := fun _ => rfl) this
      have hll : l.length = s.length := by rw [← hn, txt_size]
      have hget : ∀ i (hi : i < s.length), rd l (i : Int) = ((s[i].toNat : Nat) : Int) := fun i hi => by
        rw [hl]; unfold rd bytesOf
        rw [txt_list, Int.toNat_natCast, List.getD_eq_getElem?_getD, List.getElem?_map, List.getElem?_eq_getElem hi]; rfl
      have HR := Aside0.mk hr
      have HL := Aside0.mk hll
      have HG := Aside0.mk hget
      clear hr hn hl HQ hll hget
      go_enter Try.func28, Try.ntmps28
      go_wp2_with fail
      refine (lex_Check.calls 2 (txt s) a0_2 0 _ HK.out).mono ?_
      rintro e w1 ⟨rfl, hb⟩
      have hX := (Ch.of_below hb (fun _ => False)).heap HX0.out (fun h => h)
      have x0 := zcell hX 0 (.int .i64 2) rfl
      have x1 := zcell hX 1 (.string (txt s)) rfl
      have HB := Aside0.mk (below_ls HBW.out hb HBW.out.size)
      have HBB := Aside0.mk (bytes_below HB.out HB.out.size 5 (txt s))
      clear hb hX y0 y1 y2
      go_wp2_with fail
      clear kb x0 x1
      have HRW := Aside0.mk (HR.out w1)
      obtain ⟨gc, hgc⟩ : ∃ gc, gc = grownCap w1 l.length 0 5 := ⟨_, rfl⟩
      rw [← hgc]
      obtain ⟨g, hg⟩ : ∃ g, g = w1.heap.size := ⟨_, rfl⟩
      rw [← hg] at HRW ⊢
      generalize Lib.bytesWorld w1 5 (txt s) = W at HBB HRW ⊢
      clear hgc hg HR
      have hle : l.length ≤ 65536 := by rw [HL.out]; exact hs
      go_loop [5, 7, 20] (fun v5 v7 v20 => ∃ (i : Nat) (n : Int), i ≤ l.length ∧ v5 = .int .i64 n ∧ v20 = .int .i64 i ∧ Aside0 (numS n (s.drop i) = r0)) (fun _ _ v => l.length - (intOf v).toNat)
      case atStart => exact ⟨0, 0, by omega, rfl, rfl, HQ2⟩
      case round =>
        clear HQ2
        obtain ⟨i, n, hi, rfl, rfl, HQ⟩ := hrel
        by_cases hlt : i < l.length
        · obtain ⟨ad, ea, hx⟩ := Kd.at_int HRW.out (i : Int) (by omega) (by omega)
          cases ea
          have his : i < s.length := by rw [← HL.out]; exact hlt
          rw [HG.out i his] at hx
          rw [Int.toNat_natCast] at hx
          simp only [add_plain, Nat.mul_one, Nat.zero_add] at hx
          have hq := HQ.out
          rw [List.drop_eq_getElem_cons his] at hq
          have hq2 : numS (wrap64 (wrap64 (10 * n) + ((s[i].toNat : Int) - 48) % 256)) (s.drop (i + 1)) = r0 := hq
          have HQ3 := Aside0.mk hq2
          clear hq2
          have hc0 : (0 : Int) ≤ (s[i].toNat : Int) := by omega
          have hc1 : ((s[i].toNat : Nat) : Int) ≤ 255 := by have := s[i].toNat_lt; omega
          generalize ((s[i].toNat : Nat) : Int) = c at hx hc0 hc1 HQ3
          clear hq
          go_wp2_with fail
          exact ⟨⟨i + 1, _, by omega, rfl, by go_num, HQ3⟩, by simp [intOf]; omega⟩
        · obtain rfl : i = l.length := by omega
          have hq : n = r0 := by have := HQ.out; rw [HL.out, List.drop_eq_nil_of_le (Nat.le_refl _)] at this; exact this
          subst hq
          go_wp2_with fail
          go_ret2
          exact ⟨rfl, HBB.out⟩
    · rw [if_neg c1] at h
      injection h with h1 h2
      subst h1 h2
      have b1 : (a0_0 != 2) = true := bne_iff_ne.mpr c1
      go_enter Try.func28, Try.ntmps28
      go_wp2_with fail
      refine (lex_Check.calls a0_0 a0_1 a0_2 0 _ HK.out).mono ?_
      rintro e w1 ⟨rfl, hb⟩
      have hX := (Ch.of_below hb (fun _ => False)).heap HX0.out (fun h => h)
      have x0 := zcell hX 0 (.int .i64 a0_0) rfl
      have HB := Aside0.mk (below_ls HBW.out hb HBW.out.size)
      clear hb hX y0 y1 y2
      go_wp2_with fail
      go_ret2
      exact ⟨rfl, HB.out⟩
  · rw [if_neg c0] at h
    injection h with h1 h2
    subst h1 h2
    have b1 : (k != 0) = true := bne_iff_ne.mpr c0
    go_enter Try.func28, Try.ntmps28
    go_wp2_with fail
    refine (lex_Check.calls a0_0 a0_1 a0_2 k _ HK.out).mono ?_
    rintro e w1 ⟨rfl, hb⟩
    have HB := Aside0.mk (below_ls HBW.out hb HBW.out.size)
    clear hb y0 y1 y2
    go_wp2_with fail
    go_ret2
    exact ⟨rfl, HB.out⟩

/-! ### waybillref04_Number: function 29 -/
def waybillref04_Number.l0 : Nat → Int → Int → Int → ByteArray → Int → Option (Int × Int)
  | 0, _, _, _, _, _ => none
  | k + 1, x5, x6, x173000, x173001, x173002 => if x6 < (x173001.size : Int) then (if 0 ≤ x6 then (waybillref04_Number.l0 k (wrap64 ((wrap64 (10 * x5)) + (((bt x173001 x6) - 48) % 256))) (wrap64 (x6 + 1)) x173000 x173001 x173002) else (none)) else (some (x5, 0))
def waybillref04_Number.f (k : Nat) (a0_0 : Int) (a0_1 : ByteArray) (a0_2 : Int) : Option (Int × Int) := (waybillref04_Check.f k a0_0 a0_1 a0_2).bind fun t173 => (if t173 = 0 then (if a0_0 = 2 then (waybillref04_Number.l0 k 0 0 a0_0 a0_1 a0_2) else (some (0, 23))) else (some (0, t173)))
theorem waybillref04_Number.mono_l : ∀ k, (∀ y0 y1 y2 y3 y4, LeO (waybillref04_Number.l0 k y0 y1 y2 y3 y4) (waybillref04_Number.l0 (k + 1) y0 y1 y2 y3 y4))
  | 0 => fun _ _ _ _ _ r h => by simp [waybillref04_Number.l0] at h
  | k + 1 => by
    have ih0 := waybillref04_Number.mono_l k
    · intro y0 y1 y2 y3 y4
      unfold waybillref04_Number.l0
      repeat' first
      | (with_reducible exact ih0 _ _ _ _ _)
      | (with_reducible exact waybillref04_Check.mono _ _ _ _)
      | (with_reducible exact LeO.refl _)
      | (with_reducible exact LeO.none _)
      | (with_reducible refine LeO.ite ?_ ?_)
      | (with_reducible refine LeO.bind ?_ (fun _ => ?_))
      | exact ih0 _ _ _ _ _
      | exact waybillref04_Check.mono _ _ _ _
      | exact LeO.none _
      | refine LeO.ite ?_ ?_
      | refine LeO.bind ?_ (fun _ => ?_)
theorem waybillref04_Number.mono : ∀ a0 a1 a2 k, LeO (waybillref04_Number.f k a0 a1 a2) (waybillref04_Number.f (k + 1) a0 a1 a2) := by
  intro a0 a1 a2 k
  have ih0 := waybillref04_Number.mono_l k
  unfold waybillref04_Number.f
  repeat' first
      | (with_reducible exact ih0 _ _ _ _ _)
      | (with_reducible exact waybillref04_Check.mono _ _ _ _)
      | (with_reducible exact LeO.refl _)
      | (with_reducible exact LeO.none _)
      | (with_reducible refine LeO.ite ?_ ?_)
      | (with_reducible refine LeO.bind ?_ (fun _ => ?_))
      | exact ih0 _ _ _ _ _
      | exact waybillref04_Check.mono _ _ _ _
      | exact LeO.none _
      | refine LeO.ite ?_ ?_
      | refine LeO.bind ?_ (fun _ => ?_)
set_option maxHeartbeats 8000000 in
set_option maxRecDepth 100000 in
theorem waybillref04_Number.calls (k : Nat) (a0_0 : Int) (a0_1 : ByteArray) (a0_2 : Int) (r1 : Int) (r2 : Int) (w : World) (h : waybillref04_Number.f k a0_0 a0_1 a0_2 = some (r1, r2)) :
    Calls Try.prog 29 #[.agg #[.int .i64 a0_0, .string a0_1, .int .i64 a0_2]] w fun e w' => e = .returned (.tuple #[.int .i64 r1, .int .i64 r2]) ∧ Below w.heap.size w w' := by
  have hu31 := Try.underlying31
  have HB := Aside0.mk (Below.refl w.heap.size w)
  have H : ((waybillref04_Check.f k a0_0 a0_1 a0_2).bind fun t173 => (if t173 = 0 then (if a0_0 = 2 then (waybillref04_Number.l0 k 0 0 a0_0 a0_1 a0_2) else (some (0, 23))) else (some (0, t173)))) = some (r1, r2) := h
  clear h
  replace H := Option.bind_eq_some_iff.mp H
  obtain ⟨t173, A20, H⟩ := H
  replace H : (if t173 = 0 then (if a0_0 = 2 then (waybillref04_Number.l0 k 0 0 a0_0 a0_1 a0_2) else (some (0, 23))) else (some (0, t173))) = some (r1, r2) := H
  have A2 := Aside0.mk A20
  clear A20
  by_cases c3 : t173 = 0
  · rw [if_pos c3] at H
    have c3b0 : (t173 == 0) = true := beq_iff_eq.mpr c3
    have c3b1 : (t173 != 0) = false := bne_eq_false_iff_eq.mpr c3
    clear c3
    by_cases c4 : a0_0 = 2
    · rw [if_pos c4] at H
      have c4b0 : (a0_0 == 2) = true := beq_iff_eq.mpr c4
      have c4b1 : (a0_0 != 2) = false := bne_eq_false_iff_eq.mpr c4
      clear c4
      have H' := Aside0.mk H
      clear H
      go_enter Try.func29, Try.ntmps29
      go_wp2_with (first | ((with_reducible refine gate_dst (N := 1) rfl ?_); refine box_event ?hg (N := 1) ?hd (cs := #[.int .i64 a0_0, .string a0_1, .int .i64 a0_2]) (t := 31) ?hr ?_; (case hd => rfl); (case hg => rfl); (case hr => first | (go_simp; done) | (go_simp; rfl)); intro gb172 hg w5 hbox hb; have n0_ := Aside0.mk (below_step (by repeat (first | (with_reducible first | exact HB.out | apply below_alloc | apply pw_below_drewN | apply below_drew1) | exact HB.out)) hb); have n1_ := Aside0.mk (hbox); have n2_ := Aside0.mk ((by rw [hg]; exact (below_size (by repeat (first | (with_reducible first | exact HB.out | apply below_alloc | apply pw_below_drewN | apply below_drew1) | exact HB.out))) : w.heap.size ≤ gb172)); have n3_ := Aside0.mk ((by rw [hg]; exact (below_size (by repeat (first | (with_reducible first | exact HB.out | apply below_alloc | apply pw_below_drewN | apply below_drew1) | exact HB.out))) : w.heap.size ≤ gb172)); clear HB; have HB := n0_; have BK172 := n1_; have GW172 := n2_; have GE172 := n3_; clear n0_ n1_ n2_ n3_; clear hb hbox hg; have hcz6_0 : w5.cell? ⟨gb172, 0, none⟩ = some (.int .i64 a0_0) := (blk_cell BK172.out 0).trans rfl; have hcz6_1 : w5.cell? ⟨gb172, 1, none⟩ = some (.string a0_1) := (blk_cell BK172.out 1).trans rfl; have hcz6_2 : w5.cell? ⟨gb172, 2, none⟩ = some (.int .i64 a0_2) := (blk_cell BK172.out 2).trans rfl; have hfz6_0 := blk_frozen BK172.out 0; have hfz6_1 := blk_frozen BK172.out 1; have hfz6_2 := blk_frozen BK172.out 2) | ((with_reducible refine gate_callee (f := 30) rfl ?_); refine goesL_ (some 8) rfl rfl Try.func30 (by kernel_rfl) rfl #[.agg #[.int .i64 a0_0, .string a0_1, .int .i64 a0_2]] rfl (by (try simp only [List.map_toArray, List.map_cons, List.map_nil]); first | done | rfl | (simp only [List.length_drop, List.length_take]; rfl)) ?_; (with_reducible refine (waybillref04_Check.calls k a0_0 a0_1 a0_2 t173 _ A2.out).mono ?_); rintro e w7 ⟨rfl, hb⟩; refine ⟨_, rfl, ?_⟩; have n0_ := Aside0.mk (blk_below (g := gb172) (o := .cells #[.int .i64 a0_0, .string a0_1, .int .i64 a0_2] 31 (0, 0)) (by (with_reducible repeat (first | refine blk_drewN ?_ _ | refine blk_drew ?_ | refine blk_alloc ?_ _)); exact BK172.out) hb); have n1_ := Aside0.mk (below_step (by repeat (first | (with_reducible first | exact HB.out | apply below_alloc | apply pw_below_drewN | apply below_drew1 | refine below_set ?_ GE172.out) | exact HB.out)) hb); clear BK172; clear HB; have BK172 := n0_; have HB := n1_; clear n0_ n1_; (try clear hb); (try clear hb2); (try clear hk); (try clear hi); have hcz8_0 : w7.cell? ⟨gb172, 0, none⟩ = some (.int .i64 a0_0) := (blk_cell BK172.out 0).trans rfl; have hcz8_1 : w7.cell? ⟨gb172, 1, none⟩ = some (.string a0_1) := (blk_cell BK172.out 1).trans rfl; have hcz8_2 : w7.cell? ⟨gb172, 2, none⟩ = some (.int .i64 a0_2) := (blk_cell BK172.out 2).trans rfl; have hfz8_0 := blk_frozen BK172.out 0; have hfz8_1 := blk_frozen BK172.out 1; have hfz8_2 := blk_frozen BK172.out 2))
      go_loopg [5, 6] k (fun kq v5 v6 w' => ∃ (x5_1 : Int) (x6_1 : Int), v5 = .int .i64 x5_1 ∧ v6 = .int .i64 x6_1 ∧ Aside0 (waybillref04_Number.l0 kq x5_1 x6_1 a0_0 a0_1 a0_2 = some (r1, r2)) ∧ Aside0 (kq ≤ k) ∧ Aside0 (w'.heap[gb172]? = some (.cells #[.int .i64 a0_0, .string a0_1, .int .i64 a0_2] 31 (0, 0))) ∧ Aside0 (Below w.heap.size w w'))
      case atStart => exact ⟨(0), (0), (by first | rfl | (simp; done) | (simp [*]; done)), (by first | rfl | (simp; done) | (simp [*]; done)), H', ⟨Nat.le_refl _⟩, ⟨by (with_reducible repeat (first | refine blk_drewN ?_ _ | refine blk_drew ?_ | refine blk_alloc ?_ _)); exact BK172.out⟩, ⟨by repeat (first | (with_reducible first | exact HB.out | apply below_alloc | apply pw_below_drewN | apply below_drew1 | refine below_set ?_ GE172.out) | exact HB.out)⟩⟩
      case round =>
        clear H'
        try clear c2
        try clear p2
        try clear c3
        try clear c3b0
        try clear c3b1
        try clear c4
        try clear c4b0
        try clear c4b1
        try clear hcz6_0
        try clear hcz6_1
        try clear hcz6_2
        try clear hcz8_0
        try clear hcz8_1
        try clear hcz8_2
        try clear hfz6_0
        try clear hfz6_1
        try clear hfz6_2
        try clear hfz8_0
        try clear hfz8_1
        try clear hfz8_2
        obtain ⟨x5_1, x6_1, rfl, rfl, HA, HK1, BK172, HB⟩ := hrel
        cases gk with
        | zero => exact absurd HA.out (by simp [waybillref04_Number.l0])
        | succ k1 =>
          have H := HA.out
          clear HA
          simp only [waybillref04_Number.l0] at H
          by_cases c9 : x6_1 < (a0_1.size : Int)
          · rw [if_pos c9] at H
            have c9b0 : decide (x6_1 < (a0_1.size : Int)) = true := decide_eq_true c9
            clear c9
            by_cases c10 : 0 ≤ x6_1
            · rw [if_pos c10] at H
              have c10b0 : decide (0 ≤ x6_1) = true := decide_eq_true c10
              clear c10
              have H' := Aside0.mk H
              clear H
              have hcz12_0 : wr.cell? ⟨gb172, 0, none⟩ = some (.int .i64 a0_0) := (blk_cell BK172.out 0).trans rfl
              have hcz12_1 : wr.cell? ⟨gb172, 1, none⟩ = some (.string a0_1) := (blk_cell BK172.out 1).trans rfl
              have hcz12_2 : wr.cell? ⟨gb172, 2, none⟩ = some (.int .i64 a0_2) := (blk_cell BK172.out 2).trans rfl
              have hfz12_0 := blk_frozen BK172.out 0
              have hfz12_1 := blk_frozen BK172.out 1
              have hfz12_2 := blk_frozen BK172.out 2
              have p11 : 0 ≤ (x6_1 : Int) := of_decide_eq_true (by first | (with_reducible assumption) | assumption)
              have q11 : x6_1 < (a0_1.size : Int) := of_decide_eq_true (by first | (with_reducible assumption) | assumption)
              have hx11 := bt_at a0_1 x6_1
              replace p11 := eq_true p11
              replace q11 := eq_true q11
              go_wp2
              go_roundg k1
              case measure => have := HK1.out; omega
              case rel => exact ⟨(wrap64 ((wrap64 (10 * x5_1)) + (((bt a0_1 x6_1) - 48) % 256))), (wrap64 (x6_1 + 1)), (by first | rfl | (simp; done) | (simp [*]; done)), (by first | rfl | (simp; done) | (simp [*]; done)), H', ⟨by have := HK1.out; omega⟩, ⟨by (with_reducible repeat (first | refine blk_drewN ?_ _ | refine blk_drew ?_ | refine blk_alloc ?_ _)); exact BK172.out⟩, ⟨by repeat (first | (with_reducible first | exact HB.out | apply below_alloc | apply pw_below_drewN | apply below_drew1 | refine below_set ?_ GE172.out) | exact HB.out)⟩⟩
            · rw [if_neg c10] at H
              exact absurd H (by simp)
          · rw [if_neg c9] at H
            have c9b0 : decide (x6_1 < (a0_1.size : Int)) = false := decide_eq_false c9
            clear c9
            simp only [Option.some.injEq, Prod.mk.injEq] at H
            obtain ⟨rfl, rfl⟩ := H
            have hcz13_0 : wr.cell? ⟨gb172, 0, none⟩ = some (.int .i64 a0_0) := (blk_cell BK172.out 0).trans rfl
            have hcz13_1 : wr.cell? ⟨gb172, 1, none⟩ = some (.string a0_1) := (blk_cell BK172.out 1).trans rfl
            have hcz13_2 : wr.cell? ⟨gb172, 2, none⟩ = some (.int .i64 a0_2) := (blk_cell BK172.out 2).trans rfl
            have hfz13_0 := blk_frozen BK172.out 0
            have hfz13_1 := blk_frozen BK172.out 1
            have hfz13_2 := blk_frozen BK172.out 2
            go_wp2
            go_ret2
            exact ⟨by first | rfl | (simp [errW_none, errW_some] <;> rfl) | (simp [*, errW_none, errW_some] <;> rfl), by repeat (first | (with_reducible first | exact HB.out | apply below_alloc | apply pw_below_drewN | apply below_drew1 | refine below_set ?_ GE172.out) | exact HB.out)⟩
    · rw [if_neg c4] at H
      have c4b0 : (a0_0 == 2) = false := beq_eq_false_iff_ne.mpr c4
      have c4b1 : (a0_0 != 2) = true := bne_iff_ne.mpr c4
      simp only [Option.some.injEq, Prod.mk.injEq] at H
      obtain ⟨rfl, rfl⟩ := H
      go_enter Try.func29, Try.ntmps29
      go_wp2_with (first | ((with_reducible refine gate_dst (N := 1) rfl ?_); refine box_event ?hg (N := 1) ?hd (cs := #[.int .i64 a0_0, .string a0_1, .int .i64 a0_2]) (t := 31) ?hr ?_; (case hd => rfl); (case hg => rfl); (case hr => first | (go_simp; done) | (go_simp; rfl)); intro gb172 hg w14 hbox hb; have n0_ := Aside0.mk (below_step (by repeat (first | (with_reducible first | exact HB.out | apply below_alloc | apply pw_below_drewN | apply below_drew1) | exact HB.out)) hb); have n1_ := Aside0.mk (hbox); have n2_ := Aside0.mk ((by rw [hg]; exact (below_size (by repeat (first | (with_reducible first | exact HB.out | apply below_alloc | apply pw_below_drewN | apply below_drew1) | exact HB.out))) : w.heap.size ≤ gb172)); have n3_ := Aside0.mk ((by rw [hg]; exact (below_size (by repeat (first | (with_reducible first | exact HB.out | apply below_alloc | apply pw_below_drewN | apply below_drew1) | exact HB.out))) : w.heap.size ≤ gb172)); clear HB; have HB := n0_; have BK172 := n1_; have GW172 := n2_; have GE172 := n3_; clear n0_ n1_ n2_ n3_; clear hb hbox hg; have hcz15_0 : w14.cell? ⟨gb172, 0, none⟩ = some (.int .i64 a0_0) := (blk_cell BK172.out 0).trans rfl; have hcz15_1 : w14.cell? ⟨gb172, 1, none⟩ = some (.string a0_1) := (blk_cell BK172.out 1).trans rfl; have hcz15_2 : w14.cell? ⟨gb172, 2, none⟩ = some (.int .i64 a0_2) := (blk_cell BK172.out 2).trans rfl; have hfz15_0 := blk_frozen BK172.out 0; have hfz15_1 := blk_frozen BK172.out 1; have hfz15_2 := blk_frozen BK172.out 2) | ((with_reducible refine gate_callee (f := 30) rfl ?_); refine goesL_ (some 8) rfl rfl Try.func30 (by kernel_rfl) rfl #[.agg #[.int .i64 a0_0, .string a0_1, .int .i64 a0_2]] rfl (by (try simp only [List.map_toArray, List.map_cons, List.map_nil]); first | done | rfl | (simp only [List.length_drop, List.length_take]; rfl)) ?_; (with_reducible refine (waybillref04_Check.calls k a0_0 a0_1 a0_2 t173 _ A2.out).mono ?_); rintro e w16 ⟨rfl, hb⟩; refine ⟨_, rfl, ?_⟩; have n0_ := Aside0.mk (blk_below (g := gb172) (o := .cells #[.int .i64 a0_0, .string a0_1, .int .i64 a0_2] 31 (0, 0)) (by (with_reducible repeat (first | refine blk_drewN ?_ _ | refine blk_drew ?_ | refine blk_alloc ?_ _)); exact BK172.out) hb); have n1_ := Aside0.mk (below_step (by repeat (first | (with_reducible first | exact HB.out | apply below_alloc | apply pw_below_drewN | apply below_drew1 | refine below_set ?_ GE172.out) | exact HB.out)) hb); clear BK172; clear HB; have BK172 := n0_; have HB := n1_; clear n0_ n1_; (try clear hb); (try clear hb2); (try clear hk); (try clear hi); have hcz17_0 : w16.cell? ⟨gb172, 0, none⟩ = some (.int .i64 a0_0) := (blk_cell BK172.out 0).trans rfl; have hcz17_1 : w16.cell? ⟨gb172, 1, none⟩ = some (.string a0_1) := (blk_cell BK172.out 1).trans rfl; have hcz17_2 : w16.cell? ⟨gb172, 2, none⟩ = some (.int .i64 a0_2) := (blk_cell BK172.out 2).trans rfl; have hfz17_0 := blk_frozen BK172.out 0; have hfz17_1 := blk_frozen BK172.out 1; have hfz17_2 := blk_frozen BK172.out 2))
      go_ret2
      exact ⟨by first | rfl | (simp [errW_none, errW_some] <;> rfl) | (simp [*, errW_none, errW_some] <;> rfl), by repeat (first | (with_reducible first | exact HB.out | apply below_alloc | apply pw_below_drewN | apply below_drew1 | refine below_set ?_ GE172.out) | exact HB.out)⟩
  · rw [if_neg c3] at H
    have c3b0 : (t173 == 0) = false := beq_eq_false_iff_ne.mpr c3
    have c3b1 : (t173 != 0) = true := bne_iff_ne.mpr c3
    simp only [Option.some.injEq, Prod.mk.injEq] at H
    obtain ⟨rfl, rfl⟩ := H
    go_enter Try.func29, Try.ntmps29
    go_wp2_with (first | ((with_reducible refine gate_dst (N := 1) rfl ?_); refine box_event ?hg (N := 1) ?hd (cs := #[.int .i64 a0_0, .string a0_1, .int .i64 a0_2]) (t := 31) ?hr ?_; (case hd => rfl); (case hg => rfl); (case hr => first | (go_simp; done) | (go_simp; rfl)); intro gb172 hg w18 hbox hb; have n0_ := Aside0.mk (below_step (by repeat (first | (with_reducible first | exact HB.out | apply below_alloc | apply pw_below_drewN | apply below_drew1) | exact HB.out)) hb); have n1_ := Aside0.mk (hbox); have n2_ := Aside0.mk ((by rw [hg]; exact (below_size (by repeat (first | (with_reducible first | exact HB.out | apply below_alloc | apply pw_below_drewN | apply below_drew1) | exact HB.out))) : w.heap.size ≤ gb172)); have n3_ := Aside0.mk ((by rw [hg]; exact (below_size (by repeat (first | (with_reducible first | exact HB.out | apply below_alloc | apply pw_below_drewN | apply below_drew1) | exact HB.out))) : w.heap.size ≤ gb172)); clear HB; have HB := n0_; have BK172 := n1_; have GW172 := n2_; have GE172 := n3_; clear n0_ n1_ n2_ n3_; clear hb hbox hg; have hcz19_0 : w18.cell? ⟨gb172, 0, none⟩ = some (.int .i64 a0_0) := (blk_cell BK172.out 0).trans rfl; have hcz19_1 : w18.cell? ⟨gb172, 1, none⟩ = some (.string a0_1) := (blk_cell BK172.out 1).trans rfl; have hcz19_2 : w18.cell? ⟨gb172, 2, none⟩ = some (.int .i64 a0_2) := (blk_cell BK172.out 2).trans rfl; have hfz19_0 := blk_frozen BK172.out 0; have hfz19_1 := blk_frozen BK172.out 1; have hfz19_2 := blk_frozen BK172.out 2) | ((with_reducible refine gate_callee (f := 30) rfl ?_); refine goesL_ (some 8) rfl rfl Try.func30 (by kernel_rfl) rfl #[.agg #[.int .i64 a0_0, .string a0_1, .int .i64 a0_2]] rfl (by (try simp only [List.map_toArray, List.map_cons, List.map_nil]); first | done | rfl | (simp only [List.length_drop, List.length_take]; rfl)) ?_; (with_reducible refine (waybillref04_Check.calls k a0_0 a0_1 a0_2 t173 _ A2.out).mono ?_); rintro e w20 ⟨rfl, hb⟩; refine ⟨_, rfl, ?_⟩; have n0_ := Aside0.mk (blk_below (g := gb172) (o := .cells #[.int .i64 a0_0, .string a0_1, .int .i64 a0_2] 31 (0, 0)) (by (with_reducible repeat (first | refine blk_drewN ?_ _ | refine blk_drew ?_ | refine blk_alloc ?_ _)); exact BK172.out) hb); have n1_ := Aside0.mk (below_step (by repeat (first | (with_reducible first | exact HB.out | apply below_alloc | apply pw_below_drewN | apply below_drew1 | refine below_set ?_ GE172.out) | exact HB.out)) hb); clear BK172; clear HB; have BK172 := n0_; have HB := n1_; clear n0_ n1_; (try clear hb); (try clear hb2); (try clear hk); (try clear hi)))
    go_ret2
    exact ⟨by first | rfl | (simp [errW_none, errW_some] <;> rfl) | (simp [*, errW_none, errW_some] <;> rfl), by repeat (first | (with_reducible first | exact HB.out | apply below_alloc | apply pw_below_drewN | apply below_drew1 | refine below_set ?_ GE172.out) | exact HB.out)⟩

-- NOT PRINTED: function 11 (waybilllaw04_LexTells)

end Go.Proofs.Ytoloneoeojoiaaa.ELexTells
