-- Written by a program of this seat, over a copy of the print; parts by hand.
import Derived.Test.YtoloneoeojoiaaaELexTellsx0
import Derived.Test.YtoloneoeojoiaaaELexTellsx2
import Derived.Test.YtoloneoeojoiaaaELexTellsx3
import Derived.Test.YtoloneoeojoiaaaELexTellsx5
import Derived.Test.YtoloneoeojoiaaaELexTellsx6
namespace Go.Proofs.Ytoloneoeojoiaaa.ELexTells
open Go.RowKit Go.Proofs.YtoloneoeojoiaaaW.PrintWords Go.Proofs.YtoloneoeojoiaaaW.PrintLast Go.Proofs.YtoloneoeojoiaaaW.PrintMore
attribute [local go_sem] max2_int min2_int max_two min_two max_three min_three max_four min_four   -- for this text's walks alone
set_option linter.unusedVariables false
set_option linter.unusedSimpArgs false

-- by hand: lexprint.inc
theorem checkT_ok (t : S31) (h : checkT t = 0) : 1 ≤ t.f2 ∧ t.f1.size ≤ 65536 := by
  unfold checkT at h
  by_cases c0 : t.f0 < 1
  · rw [if_pos c0] at h; exact absurd h (by decide)
  rw [if_neg c0] at h
  by_cases c1 : t.f0 > 3
  · rw [if_pos c1] at h; exact absurd h (by decide)
  rw [if_neg c1] at h
  by_cases c2 : (tokF t.f1).2.2 ≠ 0
  · rw [if_pos c2] at h; exact absurd h (by decide)
  rw [if_neg c2] at h
  by_cases c3 : (tokF t.f1).1.length ≠ 1
  · rw [if_pos c3] at h; exact absurd h (by decide)
  rw [if_neg c3] at h
  by_cases c4 : isTok (tokF t.f1).1 t = false
  · rw [if_pos c4] at h; exact absurd h (by decide)
  rw [if_neg c4] at h
  by_cases c5 : t.f2 < 1
  · rw [if_pos c5] at h; exact absurd h (by decide)
  refine ⟨by omega, ?_⟩
  apply Classical.byContradiction
  intro hn
  apply c2
  unfold tokF
  rw [if_pos (by omega)]
  decide
theorem ck_ok : ∀ (l : List S31) (last line : Int), (line ≤ last ∨ line ≤ 1) → ckL last l = 0 → okA line l
  | [], _, _, _, _ => trivial
  | t :: r, last, line, hl, h => by
    unfold ckL at h
    by_cases c0 : checkT t = 0
    · rw [if_pos c0] at h
      obtain ⟨q1, q2⟩ := checkT_ok t c0
      by_cases c1 : t.f2 < last
      · rw [if_pos c1] at h; exact absurd h (by decide)
      rw [if_neg c1] at h
      by_cases c2 : t.f2 > 65536
      · rw [if_pos c2] at h; exact absurd h (by decide)
      rw [if_neg c2] at h
      exact ⟨by omega, by omega, q2, ck_ok r t.f2 t.f2 (.inl (Int.le_refl _)) h⟩
    · rw [if_neg c0] at h; exact absurd h c0
theorem txtA_len : ∀ (l : List S31) (nf : Bool) (line : Int), line ≤ 65536 → okA line l → (((txtA nf line l).length : Nat) : Int) ≤ (l.length : Int) * 65537 + (65536 - line)
  | [], _, _, h, _ => by simp [txtA]; omega
  | t :: r, nf, line, h, ho => by
    obtain ⟨o1, o2, o3, o4⟩ := ho
    have ih := txtA_len r true t.f2 o2 o4
    rw [txtA_step]
    have h1 : ((if t.f2 = line ∧ nf = true then [32] else []) : List UInt8).length ≤ 1 := by split <;> simp
    have h2 : t.f1.data.toList.length = t.f1.size := Array.length_toList
    simp only [List.length_append, rep_len, List.length_cons, List.length_nil, h2]
    generalize ((if t.f2 = line ∧ nf = true then [32] else []) : List UInt8).length = q at h1 ⊢
    omega
def printL (l : List S31) : ByteArray × Int := if ckL 0 l = 0 then (if (textA l).length > 65536 then (⟨#[]⟩, 5) else (txt (textA l), 0)) else (⟨#[]⟩, ckL 0 l)
def lex_Print.f (l : List S31) : Option (ByteArray × Int) := if l.length < 4398046511104 then some (printL l) else none
set_option maxRecDepth 100000 in
set_option maxHeartbeats 4000000 in
theorem lex_Print.calls (A0 : Option Addr) (c0 : Nat) (l0 : List S31) (r0 : ByteArray) (r1 : Int) (w : World) (hr0 : Kd.C k31 w A0 l0.length l0) (hc0 : l0.length ≤ c0) (h : lex_Print.f l0 = some (r0, r1)) :
    Calls Try.prog 25 #[.slice A0 l0.length c0] w fun e w' => e = .returned (.tuple #[.string r0, .int .i64 r1]) ∧ Below w.heap.size w w' := by
  have hu103 := Try.underlying103
  unfold lex_Print.f at h
  have hsm : l0.length < 4398046511104 := by
    apply Classical.byContradiction
    intro hn
    rw [if_neg hn] at h
    cases h
  rw [if_pos hsm] at h
  have h := Option.some.inj h
  unfold printL at h
  have HR := Aside0.mk hr0
  obtain ⟨k, hk⟩ : ∃ k, k = ckL 0 l0 := ⟨_, rfl⟩
  have HP : Aside0 (k = 0 → okA 1 l0) := ⟨fun h => ck_ok l0 0 1 (.inr (Int.le_refl _)) (by rw [← hk]; exact h)⟩
  rw [← hk] at h
  have HK := Aside0.mk hk
  clear hk hr0
  by_cases hk0 : k = 0
  · subst hk0
    rw [if_pos rfl] at h
    have HOK := Aside0.mk (HP.out rfl)
    have HLN := Aside0.mk (txtA_len l0 false 1 (by omega) HOK.out)
    have HSM := Aside0.mk hsm
    have hT1 : (((textA l0).length : Nat) : Int) ≤ (l0.length : Int) * 65537 + 65536 := by
      have := HLN.out
      unfold textA
      rw [List.length_append]
      split
      · simp only [List.length_nil]; omega
      · simp only [List.length_cons, List.length_nil]; omega
    have HFF : Aside0 (fitA false 0 [] (txtA false 1 l0)) := ⟨by omega, by have := HLN.out; omega, fun h => by cases h⟩
    obtain ⟨n, hn⟩ : ∃ n, n = (textA l0).length := ⟨_, rfl⟩
    have hn2 : (n : Int) ≤ 4611686018427387904 := by rw [hn]; omega
    rw [← hn] at h
    have HN := Aside0.mk hn
    clear hT1 hn HP hsm
    by_cases hbig : n > 65536
    · rw [if_pos hbig] at h
      injection h with h1 h2
      subst h1 h2
      go_enter Try.func25, Try.ntmps25
      go_wp2_with fail
      refine (check.calls _ _ _ _ HR.out hc0).mono ?_
      rintro e w1 ⟨rfl, hb⟩
      rw [← HK.out]
      have HB := Aside0.mk hb
      clear hb
      go_wp2_with fail
      refine (all.calls false w1.heap.size A0 c0 l0 0 w _ HR.out hc0 (below_alloc HB.out _) HB.out.size ⟨_, _, heap_alloc_new w1 _⟩ HOK.out HFF.out).mono ?_
      rintro e w2 ⟨rfl, ⟨line1, hpg⟩, hb⟩
      rw [← HN.out] at hpg
      obtain ⟨p, v, hpg⟩ := hpg
      have c2 := zcell hpg 2 (.int .i64 n) rfl
      have HB2 := Aside0.mk hb
      clear hb hpg
      go_wp2_with fail
      go_ret2
      exact ⟨rfl, HB2.out⟩
    · rw [if_neg hbig] at h
      injection h with h1 h2
      subst h1 h2
      have HFT : Aside0 (fitA true 0 [] (txtA false 1 l0)) := ⟨by omega, by have := HLN.out; have := HSM.out; omega, fun _ => by
        have h3 : (txtA false 1 l0).length ≤ (textA l0).length := by unfold textA; rw [List.length_append]; omega
        have := HN.out
        simp only [List.length_nil]; omega⟩
      go_enter Try.func25, Try.ntmps25
      go_wp2_with fail
      refine (check.calls _ _ _ _ HR.out hc0).mono ?_
      rintro e w1 ⟨rfl, hb⟩
      rw [← HK.out]
      have HB := Aside0.mk hb
      clear hb
      go_wp2_with fail
      refine (all.calls false w1.heap.size A0 c0 l0 0 w _ HR.out hc0 (below_alloc HB.out _) HB.out.size ⟨_, _, heap_alloc_new w1 _⟩ HOK.out HFF.out).mono ?_
      rintro e w2 ⟨rfl, ⟨line1, hpg⟩, hb⟩
      rw [← HN.out] at hpg
      obtain ⟨p, v, hpg⟩ := hpg
      have c2 := zcell hpg 2 (.int .i64 n) rfl
      have HB2 := Aside0.mk hb
      clear hb hpg
      go_wp2_with fail
      refine (all.calls true w2.heap.size A0 c0 l0 0 w _ HR.out hc0 (below_alloc HB2.out _) HB2.out.size (bld_fresh 103 [.int .i64 0, .int .i64 0, .bool true] w2 w.heap.size HB2.out.size) HOK.out HFT.out).mono ?_
      rintro e w3 ⟨rfl, ⟨line2, hpg⟩, hb⟩
      have HPG := Aside0.mk hpg
      have HB3 := Aside0.mk hb
      clear hb hpg c2
      go_wp2_with fail
      refine (bstring.calls 103 w.heap.size w2.heap.size (textA l0) _ _ HPG.out HB2.out.size).mono ?_
      rintro e w4 ⟨rfl, hb⟩
      have HB4 := Aside0.mk (HB3.out.trans hb)
      clear hb
      go_wp2_with fail
      go_ret2
      exact ⟨rfl, HB4.out⟩
  · rw [if_neg hk0] at h
    injection h with h1 h2
    subst h1 h2
    have b1 : (k != 0) = true := bne_iff_ne.mpr hk0
    go_enter Try.func25, Try.ntmps25
    go_wp2_with fail
    refine (check.calls _ _ _ _ HR.out hc0).mono ?_
    rintro e w1 ⟨rfl, hb⟩
    rw [← HK.out]
    have HB := Aside0.mk hb
    clear hb
    go_wp2_with fail
    go_ret2
    exact ⟨rfl, HB.out⟩

/-! ### waybillref04_Check: function 30 -/
mutual
def waybillref04_Check.j0 : Nat → Bool → Int → ByteArray → Int → Option (Int)
  | 0, _, _, _, _ => none
  | k + 1, x13, x138000, x138001, x138002 => if x13 = true then (some 23) else ((waybillref04_Tokens.f k x138001).bind fun bt138 => (if bt138.2.2 = 0 then (if (bt138.1.length : Int) = 1 then (if 0 < (bt138.1.length : Int) then (if ((rd_T31 bt138.1 0).f1).toList = x138001.toList then (waybillref04_Check.j1 k (((rd_T31 bt138.1 0).f0) != x138000) x138000 x138001 x138002) else (waybillref04_Check.j1 k true x138000 x138001 x138002)) else (none)) else (waybillref04_Check.j1 k true x138000 x138001 x138002)) else (waybillref04_Check.j1 k true x138000 x138001 x138002)))
def waybillref04_Check.j1 : Nat → Bool → Int → ByteArray → Int → Option (Int)
  | 0, _, _, _, _ => none
  | k + 1, x21, x138000, x138001, x138002 => if x21 = true then (some 32) else (if x138002 < 1 then (some 4) else (some 0))
end
def waybillref04_Check.f (k : Nat) (a0_0 : Int) (a0_1 : ByteArray) (a0_2 : Int) : Option (Int) := if a0_0 < 1 then (waybillref04_Check.j0 k true a0_0 a0_1 a0_2) else (waybillref04_Check.j0 k (decide (a0_0 > 3)) a0_0 a0_1 a0_2)
theorem waybillref04_Check.mono_l : ∀ k, (∀ y0 y1 y2 y3, LeO (waybillref04_Check.j0 k y0 y1 y2 y3) (waybillref04_Check.j0 (k + 1) y0 y1 y2 y3)) ∧ (∀ y0 y1 y2 y3, LeO (waybillref04_Check.j1 k y0 y1 y2 y3) (waybillref04_Check.j1 (k + 1) y0 y1 y2 y3))
  | 0 => ⟨fun _ _ _ _ r h => by simp [waybillref04_Check.j0] at h, fun _ _ _ _ r h => by simp [waybillref04_Check.j1] at h⟩
  | k + 1 => by
    obtain ⟨ih0, ih1⟩ := waybillref04_Check.mono_l k
    refine ⟨?_, ?_⟩
    · intro y0 y1 y2 y3
      unfold waybillref04_Check.j0
      repeat' first
      | (with_reducible exact ih0 _ _ _ _)
      | (with_reducible exact ih1 _ _ _ _)
      | (with_reducible exact waybillref04_Tokens.mono _ _)
      | (with_reducible exact LeO.refl _)
      | (with_reducible exact LeO.none _)
      | (with_reducible refine LeO.ite ?_ ?_)
      | (with_reducible refine LeO.bind ?_ (fun _ => ?_))
      | exact ih0 _ _ _ _
      | exact ih1 _ _ _ _
      | exact waybillref04_Tokens.mono _ _
      | exact LeO.none _
      | refine LeO.ite ?_ ?_
      | refine LeO.bind ?_ (fun _ => ?_)
    · intro y0 y1 y2 y3
      unfold waybillref04_Check.j1
      repeat' first
      | (with_reducible exact ih0 _ _ _ _)
      | (with_reducible exact ih1 _ _ _ _)
      | (with_reducible exact waybillref04_Tokens.mono _ _)
      | (with_reducible exact LeO.refl _)
      | (with_reducible exact LeO.none _)
      | (with_reducible refine LeO.ite ?_ ?_)
      | (with_reducible refine LeO.bind ?_ (fun _ => ?_))
      | exact ih0 _ _ _ _
      | exact ih1 _ _ _ _
      | exact waybillref04_Tokens.mono _ _
      | exact LeO.none _
      | refine LeO.ite ?_ ?_
      | refine LeO.bind ?_ (fun _ => ?_)
theorem waybillref04_Check.mono : ∀ a0 a1 a2 k, LeO (waybillref04_Check.f k a0 a1 a2) (waybillref04_Check.f (k + 1) a0 a1 a2) := by
  intro a0 a1 a2 k
  obtain ⟨ih0, ih1⟩ := waybillref04_Check.mono_l k
  unfold waybillref04_Check.f
  repeat' first
      | (with_reducible exact ih0 _ _ _ _)
      | (with_reducible exact ih1 _ _ _ _)
      | (with_reducible exact waybillref04_Tokens.mono _ _)
      | (with_reducible exact LeO.refl _)
      | (with_reducible exact LeO.none _)
      | (with_reducible refine LeO.ite ?_ ?_)
      | (with_reducible refine LeO.bind ?_ (fun _ => ?_))
      | exact ih0 _ _ _ _
      | exact ih1 _ _ _ _
      | exact waybillref04_Tokens.mono _ _
      | exact LeO.none _
      | refine LeO.ite ?_ ?_
      | refine LeO.bind ?_ (fun _ => ?_)
set_option maxHeartbeats 8000000 in
set_option maxRecDepth 100000 in
theorem waybillref04_Check.calls (k : Nat) (a0_0 : Int) (a0_1 : ByteArray) (a0_2 : Int) (r : Int) (w : World) (h : waybillref04_Check.f k a0_0 a0_1 a0_2 = some r) :
    Calls Try.prog 30 #[.agg #[.int .i64 a0_0, .string a0_1, .int .i64 a0_2]] w fun e w' => e = .returned (.int .i64 r) ∧ Below w.heap.size w w' := by
  have hu31 := Try.underlying31
  have HB := Aside0.mk (Below.refl w.heap.size w)
  have H : (if a0_0 < 1 then (waybillref04_Check.j0 k true a0_0 a0_1 a0_2) else (waybillref04_Check.j0 k (decide (a0_0 > 3)) a0_0 a0_1 a0_2)) = some r := h
  clear h
  have HC2 := Aside0.mk H
  clear H
  go_enter Try.func30, Try.ntmps30
  go_upto_region 1 with (first | ((with_reducible refine gate_dst (N := 1) rfl ?_); (try (refine gate_guard (by rfl) ?_; dsimp only)); refine box_event ?hg (N := 1) ?hd (cs := #[.int .i64 a0_0, .string a0_1, .int .i64 a0_2]) (t := 31) ?hr ?_; (case hd => rfl); (case hg => rfl); (case hr => first | (go_simp; done) | (go_simp; rfl)); intro gb137 hg w3 hbox hb; have n0_ := Aside0.mk (below_step (by repeat (first | (with_reducible first | exact HB.out | apply below_alloc | apply pw_below_drewN | apply below_drew1) | exact HB.out)) hb); have n1_ := Aside0.mk (hbox); have n2_ := Aside0.mk ((by rw [hg]; exact (below_size (by repeat (first | (with_reducible first | exact HB.out | apply below_alloc | apply pw_below_drewN | apply below_drew1) | exact HB.out))) : w.heap.size ≤ gb137)); have n3_ := Aside0.mk ((by rw [hg]; exact (below_size (by repeat (first | (with_reducible first | exact HB.out | apply below_alloc | apply pw_below_drewN | apply below_drew1) | exact HB.out))) : w.heap.size ≤ gb137)); clear HB; have HB := n0_; have BK137 := n1_; have GW137 := n2_; have GE137 := n3_; clear n0_ n1_ n2_ n3_; clear hb hbox hg))
  repeat (go_quiet (first | ((with_reducible refine gate_dst (N := 1) rfl ?_); (try (refine gate_guard (by rfl) ?_; dsimp only)); refine box_event ?hg (N := 1) ?hd (cs := #[.int .i64 a0_0, .string a0_1, .int .i64 a0_2]) (t := 31) ?hr ?_; (case hd => rfl); (case hg => rfl); (case hr => first | (go_simp; done) | (go_simp; rfl)); intro gb137 hg w3 hbox hb; have n0_ := Aside0.mk (below_step (by repeat (first | (with_reducible first | exact HB.out | apply below_alloc | apply pw_below_drewN | apply below_drew1) | exact HB.out)) hb); have n1_ := Aside0.mk (hbox); have n2_ := Aside0.mk ((by rw [hg]; exact (below_size (by repeat (first | (with_reducible first | exact HB.out | apply below_alloc | apply pw_below_drewN | apply below_drew1) | exact HB.out))) : w.heap.size ≤ gb137)); have n3_ := Aside0.mk ((by rw [hg]; exact (below_size (by repeat (first | (with_reducible first | exact HB.out | apply below_alloc | apply pw_below_drewN | apply below_drew1) | exact HB.out))) : w.heap.size ≤ gb137)); clear HB; have HB := n0_; have BK137 := n1_; have GW137 := n2_; have GE137 := n3_; clear n0_ n1_ n2_ n3_; clear hb hbox hg)); go_upto_region 1 with (first | ((with_reducible refine gate_dst (N := 1) rfl ?_); (try (refine gate_guard (by rfl) ?_; dsimp only)); refine box_event ?hg (N := 1) ?hd (cs := #[.int .i64 a0_0, .string a0_1, .int .i64 a0_2]) (t := 31) ?hr ?_; (case hd => rfl); (case hg => rfl); (case hr => first | (go_simp; done) | (go_simp; rfl)); intro gb137 hg w3 hbox hb; have n0_ := Aside0.mk (below_step (by repeat (first | (with_reducible first | exact HB.out | apply below_alloc | apply pw_below_drewN | apply below_drew1) | exact HB.out)) hb); have n1_ := Aside0.mk (hbox); have n2_ := Aside0.mk ((by rw [hg]; exact (below_size (by repeat (first | (with_reducible first | exact HB.out | apply below_alloc | apply pw_below_drewN | apply below_drew1) | exact HB.out))) : w.heap.size ≤ gb137)); have n3_ := Aside0.mk ((by rw [hg]; exact (below_size (by repeat (first | (with_reducible first | exact HB.out | apply below_alloc | apply pw_below_drewN | apply below_drew1) | exact HB.out))) : w.heap.size ≤ gb137)); clear HB; have HB := n0_; have BK137 := n1_; have GW137 := n2_; have GE137 := n3_; clear n0_ n1_ n2_ n3_; clear hb hbox hg)))
  (try simp only [Act.put, List.setIfInBounds_toArray, List.set_cons_zero, List.set_cons_succ])
  go_cut [13] (fun v13 wc => ∃ (kq : Nat) (x13_1 : Bool), v13 = .bool x13_1 ∧ Aside0 (waybillref04_Check.j0 kq x13_1 a0_0 a0_1 a0_2 = some r) ∧ Aside0 (kq ≤ k) ∧ Aside0 (wc.heap[gb137]? = some (.cells #[.int .i64 a0_0, .string a0_1, .int .i64 a0_2] 31 (0, 0))) ∧ Aside0 (Below w.heap.size w wc))
  case first =>
    have H := HC2.out
    clear HC2
    by_cases c4 : a0_0 < 1
    · rw [if_pos c4] at H
      have c4b0 : decide (a0_0 < 1) = true := decide_eq_true c4
      clear c4
      (first | rw [c4b0] | (simp only [i64_w, i32_w]; rw [c4b0]) | skip)
      have H' := Aside0.mk H
      clear H
      have hcz5_0 : w3.cell? ⟨gb137, 0, none⟩ = some (.int .i64 a0_0) := (blk_cell BK137.out 0).trans rfl
      have hcz5_1 : w3.cell? ⟨gb137, 1, none⟩ = some (.string a0_1) := (blk_cell BK137.out 1).trans rfl
      have hcz5_2 : w3.cell? ⟨gb137, 2, none⟩ = some (.int .i64 a0_2) := (blk_cell BK137.out 2).trans rfl
      have hfz5_0 := blk_frozen BK137.out 0
      have hfz5_1 := blk_frozen BK137.out 1
      have hfz5_2 := blk_frozen BK137.out 2
      go_wp2
      repeat (go_quiet (fail); try go_wp2)
      go_meet
      case rel => exact ⟨_, (true), (by first | rfl | (simp; done) | (simp [*]; done)), H', ⟨by first | omega | exact Nat.le_refl _⟩, ⟨by (with_reducible repeat (first | refine blk_drewN ?_ _ | refine blk_drew ?_ | refine blk_alloc ?_ _)); exact BK137.out⟩, ⟨by repeat (first | (with_reducible first | exact HB.out | apply below_alloc | apply pw_below_drewN | apply below_drew1 | refine below_set ?_ GE137.out) | exact HB.out)⟩⟩
    · rw [if_neg c4] at H
      have c4b0 : decide (a0_0 < 1) = false := decide_eq_false c4
      clear c4
      (first | rw [c4b0] | (simp only [i64_w, i32_w]; rw [c4b0]) | skip)
      have H' := Aside0.mk H
      clear H
      have hcz6_0 : w3.cell? ⟨gb137, 0, none⟩ = some (.int .i64 a0_0) := (blk_cell BK137.out 0).trans rfl
      have hcz6_1 : w3.cell? ⟨gb137, 1, none⟩ = some (.string a0_1) := (blk_cell BK137.out 1).trans rfl
      have hcz6_2 : w3.cell? ⟨gb137, 2, none⟩ = some (.int .i64 a0_2) := (blk_cell BK137.out 2).trans rfl
      have hfz6_0 := blk_frozen BK137.out 0
      have hfz6_1 := blk_frozen BK137.out 1
      have hfz6_2 := blk_frozen BK137.out 2
      go_wp2
      repeat (go_quiet (fail); try go_wp2)
      go_meet
      case rel => exact ⟨_, (decide (a0_0 > 3)), (by first | rfl | (simp; done) | (simp [*]; done)), H', ⟨by first | omega | exact Nat.le_refl _⟩, ⟨by (with_reducible repeat (first | refine blk_drewN ?_ _ | refine blk_drew ?_ | refine blk_alloc ?_ _)); exact BK137.out⟩, ⟨by repeat (first | (with_reducible first | exact HB.out | apply below_alloc | apply pw_below_drewN | apply below_drew1 | refine below_set ?_ GE137.out) | exact HB.out)⟩⟩
  case rest =>
    clear HC2
    try clear p2
    try clear c3
    try clear c4
    try clear c4b0
    try clear hcz5_0
    try clear hcz5_1
    try clear hcz5_2
    try clear hcz6_0
    try clear hcz6_1
    try clear hcz6_2
    try clear hfz5_0
    try clear hfz5_1
    try clear hfz5_2
    try clear hfz6_0
    try clear hfz6_1
    try clear hfz6_2
    obtain ⟨kq, x13_1, rfl, HA, HJ1, BK137, HB⟩ := hcut
    cases kq with
    | zero => exact absurd HA.out (by simp [waybillref04_Check.j0])
    | succ kj1 =>
      have H := HA.out
      clear HA
      simp only [waybillref04_Check.j0] at H
      by_cases c7 : x13_1 = true
      · subst c7
        have H1 : (some 23) = some r := by rw [if_pos rfl] at H; exact H
        clear H
        have H := H1
        clear H1
        obtain rfl := Option.some.inj H
        go_wp2
        repeat (go_quiet (fail); try go_wp2)
        go_ret
        exact ⟨by first | rfl | (simp [errW_none, errW_some] <;> rfl) | (simp [*, errW_none, errW_some] <;> rfl), by repeat (first | (with_reducible first | exact HB.out | apply below_alloc | apply pw_below_drewN | apply below_drew1 | refine below_set ?_ GE137.out) | exact HB.out)⟩
      · replace c7 := Bool.eq_false_iff.mpr c7
        subst c7
        have H1 : ((waybillref04_Tokens.f kj1 a0_1).bind fun bt138 => (if bt138.2.2 = 0 then (if (bt138.1.length : Int) = 1 then (if 0 < (bt138.1.length : Int) then (if ((rd_T31 bt138.1 0).f1).toList = a0_1.toList then (waybillref04_Check.j1 kj1 (((rd_T31 bt138.1 0).f0) != a0_0) a0_0 a0_1 a0_2) else (waybillref04_Check.j1 kj1 true a0_0 a0_1 a0_2)) else (none)) else (waybillref04_Check.j1 kj1 true a0_0 a0_1 a0_2)) else (waybillref04_Check.j1 kj1 true a0_0 a0_1 a0_2))) = some r := by rw [if_neg (show ¬ (false = true) by decide)] at H; exact H
        clear H
        have H := H1
        clear H1
        replace H := Option.bind_eq_some_iff.mp H
        obtain ⟨⟨t138, t139, t140⟩, A80, H⟩ := H
        replace H : (if t140 = 0 then (if (t138.length : Int) = 1 then (if 0 < (t138.length : Int) then (if ((rd_T31 t138 0).f1).toList = a0_1.toList then (waybillref04_Check.j1 kj1 (((rd_T31 t138 0).f0) != a0_0) a0_0 a0_1 a0_2) else (waybillref04_Check.j1 kj1 true a0_0 a0_1 a0_2)) else (none)) else (waybillref04_Check.j1 kj1 true a0_0 a0_1 a0_2)) else (waybillref04_Check.j1 kj1 true a0_0 a0_1 a0_2)) = some r := H
        have A8 := Aside0.mk A80
        clear A80
        have HC9 := Aside0.mk H
        clear H
        have hcz10_0 : wc.cell? ⟨gb137, 0, none⟩ = some (.int .i64 a0_0) := (blk_cell BK137.out 0).trans rfl
        have hcz10_1 : wc.cell? ⟨gb137, 1, none⟩ = some (.string a0_1) := (blk_cell BK137.out 1).trans rfl
        have hcz10_2 : wc.cell? ⟨gb137, 2, none⟩ = some (.int .i64 a0_2) := (blk_cell BK137.out 2).trans rfl
        have hfz10_0 := blk_frozen BK137.out 0
        have hfz10_1 := blk_frozen BK137.out 1
        have hfz10_2 := blk_frozen BK137.out 2
        go_upto_region 4 with (first | (go_at_call 18; (with_reducible refine (waybillref04_Tokens.calls kj1 a0_1 t138 t139 t140 _ A8.out).mono ?_); rintro e w11 ⟨v141, rfl, ho0, hb⟩; have n0_ := Aside0.mk (Kd.R_lower (Kd.R_newB ho0 (g := gb137) (o := .cells #[.int .i64 a0_0, .string a0_1, .int .i64 a0_2] 31 (0, 0)) (by (with_reducible repeat (first | refine blk_drewN ?_ _ | refine blk_drew ?_ | refine blk_alloc ?_ _)); exact BK137.out)) (below_size (by repeat (first | (with_reducible first | exact HB.out | apply below_alloc | apply pw_below_drewN | apply below_drew1 | refine below_set ?_ GE137.out) | exact HB.out)))); have n1_ := Aside0.mk (blk_below (g := gb137) (o := .cells #[.int .i64 a0_0, .string a0_1, .int .i64 a0_2] 31 (0, 0)) (by (with_reducible repeat (first | refine blk_drewN ?_ _ | refine blk_drew ?_ | refine blk_alloc ?_ _)); exact BK137.out) hb); have n2_ := Aside0.mk (below_step (by repeat (first | (with_reducible first | exact HB.out | apply below_alloc | apply pw_below_drewN | apply below_drew1 | refine below_set ?_ GE137.out) | exact HB.out)) hb); clear BK137; clear HB; have HO142 := n0_; have BK137 := n1_; have HB := n2_; clear n0_ n1_ n2_; (try clear hb); (try clear hb2); (try clear hk); (try clear hi); (try clear ho0)))
        repeat (go_quiet (first | (go_at_call 18; (with_reducible refine (waybillref04_Tokens.calls kj1 a0_1 t138 t139 t140 _ A8.out).mono ?_); rintro e w11 ⟨v141, rfl, ho0, hb⟩; have n0_ := Aside0.mk (Kd.R_lower (Kd.R_newB ho0 (g := gb137) (o := .cells #[.int .i64 a0_0, .string a0_1, .int .i64 a0_2] 31 (0, 0)) (by (with_reducible repeat (first | refine blk_drewN ?_ _ | refine blk_drew ?_ | refine blk_alloc ?_ _)); exact BK137.out)) (below_size (by repeat (first | (with_reducible first | exact HB.out | apply below_alloc | apply pw_below_drewN | apply below_drew1 | refine below_set ?_ GE137.out) | exact HB.out)))); have n1_ := Aside0.mk (blk_below (g := gb137) (o := .cells #[.int .i64 a0_0, .string a0_1, .int .i64 a0_2] 31 (0, 0)) (by (with_reducible repeat (first | refine blk_drewN ?_ _ | refine blk_drew ?_ | refine blk_alloc ?_ _)); exact BK137.out) hb); have n2_ := Aside0.mk (below_step (by repeat (first | (with_reducible first | exact HB.out | apply below_alloc | apply pw_below_drewN | apply below_drew1 | refine below_set ?_ GE137.out) | exact HB.out)) hb); clear BK137; clear HB; have HO142 := n0_; have BK137 := n1_; have HB := n2_; clear n0_ n1_ n2_; (try clear hb); (try clear hb2); (try clear hk); (try clear hi); (try clear ho0))); go_upto_region 4 with (first | (go_at_call 18; (with_reducible refine (waybillref04_Tokens.calls kj1 a0_1 t138 t139 t140 _ A8.out).mono ?_); rintro e w11 ⟨v141, rfl, ho0, hb⟩; have n0_ := Aside0.mk (Kd.R_lower (Kd.R_newB ho0 (g := gb137) (o := .cells #[.int .i64 a0_0, .string a0_1, .int .i64 a0_2] 31 (0, 0)) (by (with_reducible repeat (first | refine blk_drewN ?_ _ | refine blk_drew ?_ | refine blk_alloc ?_ _)); exact BK137.out)) (below_size (by repeat (first | (with_reducible first | exact HB.out | apply below_alloc | apply pw_below_drewN | apply below_drew1 | refine below_set ?_ GE137.out) | exact HB.out)))); have n1_ := Aside0.mk (blk_below (g := gb137) (o := .cells #[.int .i64 a0_0, .string a0_1, .int .i64 a0_2] 31 (0, 0)) (by (with_reducible repeat (first | refine blk_drewN ?_ _ | refine blk_drew ?_ | refine blk_alloc ?_ _)); exact BK137.out) hb); have n2_ := Aside0.mk (below_step (by repeat (first | (with_reducible first | exact HB.out | apply below_alloc | apply pw_below_drewN | apply below_drew1 | refine below_set ?_ GE137.out) | exact HB.out)) hb); clear BK137; clear HB; have HO142 := n0_; have BK137 := n1_; have HB := n2_; clear n0_ n1_ n2_; (try clear hb); (try clear hb2); (try clear hk); (try clear hi); (try clear ho0))))
        (try simp only [Act.put, List.setIfInBounds_toArray, List.set_cons_zero, List.set_cons_succ])
        go_cut [21] (fun v21 wc => ∃ (kq : Nat) (x21_8 : Bool), v21 = .bool x21_8 ∧ Aside0 (waybillref04_Check.j1 kq x21_8 a0_0 a0_1 a0_2 = some r) ∧ Aside0 (kq ≤ kj1) ∧ Aside0 (wc.heap[gb137]? = some (.cells #[.int .i64 a0_0, .string a0_1, .int .i64 a0_2] 31 (0, 0))) ∧ Aside0 (Below w.heap.size w wc))
        case first =>
          have H := HC9.out
          clear HC9
          by_cases c12 : t140 = 0
          · rw [if_pos c12] at H
            have c12b0 : (t140 == 0) = true := beq_iff_eq.mpr c12
            have c12b1 : (t140 != 0) = false := bne_eq_false_iff_eq.mpr c12
            clear c12
            (first | rw [c12b0] | (simp only [i64_w, i32_w]; rw [c12b0]) | skip)
            by_cases c13 : (t138.length : Int) = 1
            · rw [if_pos c13] at H
              have c13b0 : ((t138.length : Int) == 1) = true := beq_iff_eq.mpr c13
              have c13b1 : ((t138.length : Int) != 1) = false := bne_eq_false_iff_eq.mpr c13
              clear c13
              by_cases c14 : 0 < (t138.length : Int)
              · rw [if_pos c14] at H
                have c14b0 : decide (0 < (t138.length : Int)) = true := decide_eq_true c14
                have c14b1 : decide (0 < t138.length) = true := decide_eq_true (by omega)
                clear c14
                by_cases c15 : ((rd_T31 t138 0).f1).toList = a0_1.toList
                · rw [if_pos c15] at H
                  have c15b0 : (((rd_T31 t138 0).f1).toList == a0_1.toList) = true := beq_iff_eq.mpr c15
                  have c15b1 : (((rd_T31 t138 0).f1).toList != a0_1.toList) = false := bne_eq_false_iff_eq.mpr c15
                  clear c15
                  have H' := Aside0.mk H
                  clear H
                  obtain ⟨Ao16, co16, eo16⟩ := Kd.R_slice HO142.out
                  subst eo16
                  have p143 : 0 ≤ (0 : Int) := (by omega)
                  have q143 : 0 < (t138.length : Int) := of_decide_eq_true (by first | (with_reducible assumption) | assumption)
                  obtain ⟨ad143, e143, hx143_0, hx143_1, hx143_2⟩ := at_T31 (Kd.R_reads' HO142.out).2.2 0 p143 q143
                  cases e143
                  have qi143 : (0 < t138.length) = True := eq_true (by omega)
                  (try rw [show ((0 : Int)).toNat = 0 from rfl] at hx143_0)
                  (try rw [show 0 * 3 = 0 from rfl] at hx143_0)
                  (try rw [Addr.add_zero'] at hx143_0)
                  (try rw [show ((0 : Int)).toNat = 0 from rfl] at hx143_1)
                  (try rw [show 0 * 3 = 0 from rfl] at hx143_1)
                  (try rw [Addr.add_zero'] at hx143_1)
                  (try rw [show ((0 : Int)).toNat = 0 from rfl] at hx143_2)
                  (try rw [show 0 * 3 = 0 from rfl] at hx143_2)
                  (try rw [Addr.add_zero'] at hx143_2)
                  replace p143 := eq_true p143
                  replace q143 := eq_true q143
                  have hcz17_0 : w11.cell? ⟨gb137, 0, none⟩ = some (.int .i64 a0_0) := (blk_cell BK137.out 0).trans rfl
                  have hcz17_1 : w11.cell? ⟨gb137, 1, none⟩ = some (.string a0_1) := (blk_cell BK137.out 1).trans rfl
                  have hcz17_2 : w11.cell? ⟨gb137, 2, none⟩ = some (.int .i64 a0_2) := (blk_cell BK137.out 2).trans rfl
                  have hfz17_0 := blk_frozen BK137.out 0
                  have hfz17_1 := blk_frozen BK137.out 1
                  have hfz17_2 := blk_frozen BK137.out 2
                  have p144 : 0 ≤ (0 : Int) := (by omega)
                  have q144 : 0 < (t138.length : Int) := of_decide_eq_true (by first | (with_reducible assumption) | assumption)
                  obtain ⟨ad144, e144, hx144_0, hx144_1, hx144_2⟩ := at_T31 (Kd.R_reads' HO142.out).2.2 0 p144 q144
                  obtain rfl : ad143 = ad144 := (by injection e144)
                  have qi144 : (0 < t138.length) = True := eq_true (by omega)
                  (try rw [show ((0 : Int)).toNat = 0 from rfl] at hx144_0)
                  (try rw [show 0 * 3 = 0 from rfl] at hx144_0)
                  (try rw [Addr.add_zero'] at hx144_0)
                  (try rw [show ((0 : Int)).toNat = 0 from rfl] at hx144_1)
                  (try rw [show 0 * 3 = 0 from rfl] at hx144_1)
                  (try rw [Addr.add_zero'] at hx144_1)
                  (try rw [show ((0 : Int)).toNat = 0 from rfl] at hx144_2)
                  (try rw [show 0 * 3 = 0 from rfl] at hx144_2)
                  (try rw [Addr.add_zero'] at hx144_2)
                  replace p144 := eq_true p144
                  replace q144 := eq_true q144
                  go_wp2
                  repeat (go_quiet (fail); try go_wp2)
                  go_meet
                  case rel => exact ⟨_, ((((rd_T31 t138 0).f0) != a0_0)), (by first | rfl | (simp; done) | (simp [*]; done)), H', ⟨by have := HJ1.out; first | omega | exact Nat.le_refl _⟩, ⟨by (with_reducible repeat (first | refine blk_drewN ?_ _ | refine blk_drew ?_ | refine blk_alloc ?_ _)); exact BK137.out⟩, ⟨by repeat (first | (with_reducible first | exact HB.out | apply below_alloc | apply pw_below_drewN | apply below_drew1 | refine below_set ?_ GE137.out) | exact HB.out)⟩⟩
                · rw [if_neg c15] at H
                  have c15b0 : (((rd_T31 t138 0).f1).toList == a0_1.toList) = false := beq_eq_false_iff_ne.mpr c15
                  have c15b1 : (((rd_T31 t138 0).f1).toList != a0_1.toList) = true := bne_iff_ne.mpr c15
                  have H' := Aside0.mk H
                  clear H
                  obtain ⟨Ao18, co18, eo18⟩ := Kd.R_slice HO142.out
                  subst eo18
                  have p143 : 0 ≤ (0 : Int) := (by omega)
                  have q143 : 0 < (t138.length : Int) := of_decide_eq_true (by first | (with_reducible assumption) | assumption)
                  obtain ⟨ad143, e143, hx143_0, hx143_1, hx143_2⟩ := at_T31 (Kd.R_reads' HO142.out).2.2 0 p143 q143
                  cases e143
                  have qi143 : (0 < t138.length) = True := eq_true (by omega)
                  (try rw [show ((0 : Int)).toNat = 0 from rfl] at hx143_0)
                  (try rw [show 0 * 3 = 0 from rfl] at hx143_0)
                  (try rw [Addr.add_zero'] at hx143_0)
                  (try rw [show ((0 : Int)).toNat = 0 from rfl] at hx143_1)
                  (try rw [show 0 * 3 = 0 from rfl] at hx143_1)
                  (try rw [Addr.add_zero'] at hx143_1)
                  (try rw [show ((0 : Int)).toNat = 0 from rfl] at hx143_2)
                  (try rw [show 0 * 3 = 0 from rfl] at hx143_2)
                  (try rw [Addr.add_zero'] at hx143_2)
                  replace p143 := eq_true p143
                  replace q143 := eq_true q143
                  have hcz19_0 : w11.cell? ⟨gb137, 0, none⟩ = some (.int .i64 a0_0) := (blk_cell BK137.out 0).trans rfl
                  have hcz19_1 : w11.cell? ⟨gb137, 1, none⟩ = some (.string a0_1) := (blk_cell BK137.out 1).trans rfl
                  have hcz19_2 : w11.cell? ⟨gb137, 2, none⟩ = some (.int .i64 a0_2) := (blk_cell BK137.out 2).trans rfl
                  have hfz19_0 := blk_frozen BK137.out 0
                  have hfz19_1 := blk_frozen BK137.out 1
                  have hfz19_2 := blk_frozen BK137.out 2
                  go_wp2
                  repeat (go_quiet (fail); try go_wp2)
                  go_meet
                  case rel => exact ⟨_, (true), (by first | rfl | (simp; done) | (simp [*]; done)), H', ⟨by have := HJ1.out; first | omega | exact Nat.le_refl _⟩, ⟨by (with_reducible repeat (first | refine blk_drewN ?_ _ | refine blk_drew ?_ | refine blk_alloc ?_ _)); exact BK137.out⟩, ⟨by repeat (first | (with_reducible first | exact HB.out | apply below_alloc | apply pw_below_drewN | apply below_drew1 | refine below_set ?_ GE137.out) | exact HB.out)⟩⟩
              · rw [if_neg c14] at H
                exact absurd H (by simp)
            · rw [if_neg c13] at H
              have c13b0 : ((t138.length : Int) == 1) = false := beq_eq_false_iff_ne.mpr c13
              have c13b1 : ((t138.length : Int) != 1) = true := bne_iff_ne.mpr c13
              have H' := Aside0.mk H
              clear H
              obtain ⟨Ao20, co20, eo20⟩ := Kd.R_slice HO142.out
              subst eo20
              go_wp2
              repeat (go_quiet (fail); try go_wp2)
              go_meet
              case rel => exact ⟨_, (true), (by first | rfl | (simp; done) | (simp [*]; done)), H', ⟨by have := HJ1.out; first | omega | exact Nat.le_refl _⟩, ⟨by (with_reducible repeat (first | refine blk_drewN ?_ _ | refine blk_drew ?_ | refine blk_alloc ?_ _)); exact BK137.out⟩, ⟨by repeat (first | (with_reducible first | exact HB.out | apply below_alloc | apply pw_below_drewN | apply below_drew1 | refine below_set ?_ GE137.out) | exact HB.out)⟩⟩
          · rw [if_neg c12] at H
            have c12b0 : (t140 == 0) = false := beq_eq_false_iff_ne.mpr c12
            have c12b1 : (t140 != 0) = true := bne_iff_ne.mpr c12
            (first | rw [c12b0] | (simp only [i64_w, i32_w]; rw [c12b0]) | skip)
            have H' := Aside0.mk H
            clear H
            go_wp2
            repeat (go_quiet (fail); try go_wp2)
            go_meet
            case rel => exact ⟨_, (true), (by first | rfl | (simp; done) | (simp [*]; done)), H', ⟨by have := HJ1.out; first | omega | exact Nat.le_refl _⟩, ⟨by (with_reducible repeat (first | refine blk_drewN ?_ _ | refine blk_drew ?_ | refine blk_alloc ?_ _)); exact BK137.out⟩, ⟨by repeat (first | (with_reducible first | exact HB.out | apply below_alloc | apply pw_below_drewN | apply below_drew1 | refine below_set ?_ GE137.out) | exact HB.out)⟩⟩
        case rest =>
          clear HC9
          try clear c1
          try clear p1
          try clear q1
          try clear hx1
          try clear qi1
          try clear p2
          try clear c3
          try clear c4
          try clear c4b0
          try clear c7
          try clear c12
          try clear c12b0
          try clear c12b1
          try clear c13
          try clear c13b0
          try clear c13b1
          try clear c14
          try clear c14b0
          try clear c14b1
          try clear p14
          try clear q14
          try clear hx14
          try clear qi14
          try clear c15
          try clear c15b0
          try clear c15b1
          try clear hcz10_0
          try clear hcz10_1
          try clear hcz10_2
          try clear hcz17_0
          try clear hcz17_1
          try clear hcz17_2
          try clear hcz19_0
          try clear hcz19_1
          try clear hcz19_2
          try clear hcz5_0
          try clear hcz5_1
          try clear hcz5_2
          try clear hcz6_0
          try clear hcz6_1
          try clear hcz6_2
          try clear hfz10_0
          try clear hfz10_1
          try clear hfz10_2
          try clear hfz17_0
          try clear hfz17_1
          try clear hfz17_2
          try clear hfz19_0
          try clear hfz19_1
          try clear hfz19_2
          try clear hfz5_0
          try clear hfz5_1
          try clear hfz5_2
          try clear hfz6_0
          try clear hfz6_1
          try clear hfz6_2
          try clear hx143_0
          try clear hx143_1
          try clear hx143_2
          try clear hx144_0
          try clear hx144_1
          try clear hx144_2
          try clear p143
          try clear p144
          try clear p2
          try clear q143
          try clear q144
          obtain ⟨kq, x21_8, rfl, HA, HJ8, BK137, HB⟩ := hcut
          cases kq with
          | zero => exact absurd HA.out (by simp [waybillref04_Check.j1])
          | succ kj8 =>
            have H := HA.out
            clear HA
            simp only [waybillref04_Check.j1] at H
            by_cases c21 : x21_8 = true
            · subst c21
              have H1 : (some 32) = some r := by rw [if_pos rfl] at H; exact H
              clear H
              have H := H1
              clear H1
              obtain rfl := Option.some.inj H
              go_wp2
              repeat (go_quiet (fail); try go_wp2)
              go_ret
              exact ⟨by first | rfl | (simp [errW_none, errW_some] <;> rfl) | (simp [*, errW_none, errW_some] <;> rfl), by repeat (first | (with_reducible first | exact HB.out | apply below_alloc | apply pw_below_drewN | apply below_drew1 | refine below_set ?_ GE137.out) | exact HB.out)⟩
            · replace c21 := Bool.eq_false_iff.mpr c21
              subst c21
              have H1 : (if a0_2 < 1 then (some 4) else (some 0)) = some r := by rw [if_neg (show ¬ (false = true) by decide)] at H; exact H
              clear H
              have H := H1
              clear H1
              by_cases c22 : a0_2 < 1
              · rw [if_pos c22] at H
                have c22b0 : decide (a0_2 < 1) = true := decide_eq_true c22
                clear c22
                obtain rfl := Option.some.inj H
                have hcz23_0 : wc.cell? ⟨gb137, 0, none⟩ = some (.int .i64 a0_0) := (blk_cell BK137.out 0).trans rfl
                have hcz23_1 : wc.cell? ⟨gb137, 1, none⟩ = some (.string a0_1) := (blk_cell BK137.out 1).trans rfl
                have hcz23_2 : wc.cell? ⟨gb137, 2, none⟩ = some (.int .i64 a0_2) := (blk_cell BK137.out 2).trans rfl
                have hfz23_0 := blk_frozen BK137.out 0
                have hfz23_1 := blk_frozen BK137.out 1
                have hfz23_2 := blk_frozen BK137.out 2
                go_wp2
                repeat (go_quiet (fail); try go_wp2)
                go_ret
                exact ⟨by first | rfl | (simp [errW_none, errW_some] <;> rfl) | (simp [*, errW_none, errW_some] <;> rfl), by repeat (first | (with_reducible first | exact HB.out | apply below_alloc | apply pw_below_drewN | apply below_drew1 | refine below_set ?_ GE137.out) | exact HB.out)⟩
              · rw [if_neg c22] at H
                have c22b0 : decide (a0_2 < 1) = false := decide_eq_false c22
                clear c22
                obtain rfl := Option.some.inj H
                have hcz24_0 : wc.cell? ⟨gb137, 0, none⟩ = some (.int .i64 a0_0) := (blk_cell BK137.out 0).trans rfl
                have hcz24_1 : wc.cell? ⟨gb137, 1, none⟩ = some (.string a0_1) := (blk_cell BK137.out 1).trans rfl
                have hcz24_2 : wc.cell? ⟨gb137, 2, none⟩ = some (.int .i64 a0_2) := (blk_cell BK137.out 2).trans rfl
                have hfz24_0 := blk_frozen BK137.out 0
                have hfz24_1 := blk_frozen BK137.out 1
                have hfz24_2 := blk_frozen BK137.out 2
                go_wp2
                repeat (go_quiet (fail); try go_wp2)
                go_ret
                exact ⟨by first | rfl | (simp [errW_none, errW_some] <;> rfl) | (simp [*, errW_none, errW_some] <;> rfl), by repeat (first | (with_reducible first | exact HB.out | apply below_alloc | apply pw_below_drewN | apply below_drew1 | refine below_set ?_ GE137.out) | exact HB.out)⟩

end Go.Proofs.Ytoloneoeojoiaaa.ELexTells
