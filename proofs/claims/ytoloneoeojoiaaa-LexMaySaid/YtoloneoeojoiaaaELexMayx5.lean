-- Written by a program of this seat, over a copy of the print; parts by hand.
import Derived.Test.YtoloneoeojoiaaaELexMayx0
import Derived.Test.YtoloneoeojoiaaaELexMayx2
import Derived.Test.YtoloneoeojoiaaaELexMayx3
import Derived.Test.YtoloneoeojoiaaaELexMayx4
namespace Go.Proofs.Ytoloneoeojoiaaa.ELexMay
open Go.RowKit Go.Proofs.YtoloneoeojoiaaaW.PrintWords Go.Proofs.YtoloneoeojoiaaaW.PrintLast Go.Proofs.YtoloneoeojoiaaaW.PrintMore
attribute [local go_sem] max2_int min2_int max_two min_two max_three min_three max_four min_four   -- for this text's walks alone
set_option linter.unusedVariables false
set_option linter.unusedSimpArgs false

-- by hand: lexall3.inc
/-- The whole text. -/
def textA (l : List S31) : List UInt8 := txtA false 1 l ++ (if l.length = 0 then [] else [10])
set_option maxRecDepth 100000 in
set_option maxHeartbeats 4000000 in
theorem all.calls (full : Bool) (b : Nat) (A : Option Addr) (c : Nat) (l : List S31) (line0 : Int) (w0 w : World) (hr : Kd.C k31 w0 A l.length l) (hc : l.length ≤ c) (hB0 : Below w0.heap.size w0 w) (hbb : w0.heap.size ≤ b) (hpg : PG full w0.heap.size b [] 0 line0 w) (hok : okA 1 l) (hfit : fitA full 0 [] (txtA false 1 l)) :
    Calls Try.prog 44 #[.pointer (some ⟨b, 0, none⟩), .slice A l.length c] w fun e w' => e = .returned (.tuple #[]) ∧ (∃ line1, PG full w0.heap.size b (textA l) (((textA l).length : Nat) : Int) line1 w') ∧ Below w0.heap.size w0 w' := by
  have hu31 := Try.underlying31
  have HR := Aside0.mk hr
  have hlen : l.length ≤ 9223372036854775807 := hr.2.1
  have HB := Aside0.mk (below_ch hB0 ((Ch.refl (fun k => k = b) w).set (p := ⟨b, 3, none⟩) (.inl rfl) (.int .i64 1)) hB0.size (fun k h => by omega))
  have HPG := Aside0.mk (hpg.line 1)
  have HOK : Aside0 (okA 1 (l.drop 0)) := ⟨hok⟩
  have HFIT : Aside0 (fitA full 0 [] (txtA false 1 (l.drop 0))) := ⟨hfit⟩
  obtain ⟨T, hT⟩ : ∃ T, T = txtA false 1 l := ⟨_, rfl⟩
  have HTA : Aside0 (textA l = T ++ (if l.length = 0 then [] else [10])) := ⟨by rw [hT]; rfl⟩
  have HT : Aside0 (T = [] ++ txtA false 1 (l.drop 0)) := ⟨hT⟩
  obtain ⟨p, v, hb⟩ := hpg.block
  have f3 := zfree hb 3
  have c3 := zcell hb 3 (.int .i64 line0) rfl
  clear hr hB0 hpg hok hfit hT hb
  go_enter Try.func44, Try.ntmps44
  go_wp2_with fail
  clear f3 c3
  generalize w.setCell ⟨b, 3, none⟩ (.int .i64 1) = W1 at HPG HB ⊢
  go_loopw [11] (fun v11 W => ∃ (i : Nat) (s : List UInt8) (line : Int) (nf : Bool), i ≤ l.length ∧ 1 ≤ line ∧ v11 = .int .i64 i ∧ Aside0 (nf = decide ((0 : Int) < (i : Int))) ∧ Aside0 (T = s ++ txtA nf line (l.drop i)) ∧ Aside0 (okA line (l.drop i)) ∧ Aside0 (fitA full ((s.length : Nat) : Int) s (txtA nf line (l.drop i))) ∧ Aside0 (PG full w0.heap.size b s ((s.length : Nat) : Int) line W) ∧ Aside0 (Below w0.heap.size w0 W)) (fun v _ => l.length - (intOf v).toNat)
  case atStart => exact ⟨0, [], 1, false, by omega, by omega, rfl, ⟨rfl⟩, HT, HOK, HFIT, HPG, HB⟩
  case round =>
    clear HB HPG HOK HFIT HT
    obtain ⟨i, s, line, nf, hi, h1, rfl, HNF, HT, HOK, HFIT, HPG, HB⟩ := hrel
    by_cases hlt : i < l.length
    · obtain ⟨ad, ea, hx, hy, hz⟩ := at_T31 (C31_below HR.out HB.out (Nat.le_refl _)) (i : Int) (by omega) (by omega)
      cases ea
      rw [Int.toNat_natCast] at hx hy hz
      have hT := HT.out
      have hok := HOK.out
      have hfit := HFIT.out
      rw [drop31 l i hlt] at hT hok hfit
      obtain ⟨x, hxe⟩ : ∃ x, x = rd_T31 l (i : Int) := ⟨_, rfl⟩
      rw [← hxe] at hx hy hz hT hok hfit
      clear hxe HT HOK HFIT
      obtain ⟨o1, o2, o3, o4⟩ := hok
      have HOK2 := Aside0.mk o4
      obtain ⟨xs, hxs⟩ : ∃ xs, x.f1 = txt xs := ⟨x.f1.data.toList, (txt_data _).symm⟩
      rw [hxs] at hy o3
      rw [txt_size] at o3
      rw [txtA_step, hxs, txt_list] at hT hfit
      obtain ⟨d, hd⟩ : ∃ d : Nat, x.f2 - line = d := ⟨(x.f2 - line).toNat, by omega⟩
      rw [hd, Int.toNat_natCast] at hT hfit
      obtain ⟨p, v, hb⟩ := HPG.out.block
      obtain ⟨q0, q1, q2⟩ := hfit
      have hz0 : wr.heap.size ≠ b := by have := lt_of_block hb; omega
      have hb1 := ((Ch.refl (fun _ => False) wr).alloc (.cells #[.int .i64 x.f0, .string (txt xs), .int .i64 x.f2] 31 (0, 0))).heap hb (fun h => h)
      have HPG1 := Aside0.mk (HPG.out.step ((Ch.refl (fun _ => False) wr).alloc (.cells #[.int .i64 x.f0, .string (txt xs), .int .i64 x.f2] 31 (0, 0))))
      have HX1 := Aside0.mk (heap_alloc_new wr (.cells #[.int .i64 x.f0, .string (txt xs), .int .i64 x.f2] 31 (0, 0)))
      have HB1 := Aside0.mk (below_alloc HB.out (.cells #[.int .i64 x.f0, .string (txt xs), .int .i64 x.f2] 31 (0, 0)))
      have y0 := zcell HX1.out 0 (.int .i64 x.f0) rfl
      have y1 := zcell HX1.out 1 (.string (txt xs)) rfl
      have y2 := zcell HX1.out 2 (.int .i64 x.f2) rfl
      have z3 := zcell hb1 3 (.int .i64 line) rfl
      have HBX : Aside0 (w0.heap.size ≤ wr.heap.size) := ⟨HB.out.size⟩
      obtain ⟨bx, hbx⟩ : ∃ bx, bx = wr.heap.size := ⟨_, rfl⟩
      have HT2 := Aside0.mk hT
      have HQ1 := Aside0.mk q1
      have HQ2 := Aside0.mk q2
      have HLN : Aside0 (x.f2 - line = (d : Int) ∧ line ≤ x.f2 ∧ x.f2 ≤ 65536 ∧ 1 ≤ line) := ⟨hd, o1, o2, h1⟩
      have HXS := Aside0.mk o3
      clear hb hb1 HPG HB hT q0 q1 q2 o4 hd o1 o2 o3 h1
      have HDL : Aside0 (x.f2 - line = (d : Int) ∧ (d : Int) ≤ 65536 ∧ line ≤ x.f2) := ⟨by
        have := HLN.out; omega⟩
      have HDL : Aside0 (x.f2 - line = (d : Int) ∧ (d : Int) ≤ 65536 ∧ line ≤ x.f2) := ⟨by
        have := HLN.out; omega⟩
      obtain ⟨R, hR⟩ : ∃ R, R = txtA true x.f2 (l.drop (i + 1)) := ⟨_, rfl⟩
      go_wp2_with fail
      by_cases he : x.f2 = line
      · by_cases hi0 : 0 < i
        · have hb0 : (x.f2 == line) = true := beq_iff_eq.mpr he
          have hb1 : decide (0 < i) = true := decide_eq_true hi0
          have hnf : nf = true := by rw [HNF.out]; exact decide_eq_true (by omega)
          have hT := HT2.out
          have q1 := HQ1.out
          have q2 := HQ2.out
          rw [if_pos ⟨he, hnf⟩, ← hR] at hT q1 q2
          simp only [List.length_append, rep_len, List.length_cons, List.length_nil] at q1 q2
          have HT3 : Aside0 (T = (s ++ [32]) ++ (rep [10] d ++ (xs ++ R))) := ⟨by rw [hT]; simp⟩
          have HF2 : Aside0 ((((s ++ [32]).length : Nat) : Int) + ((d + (xs.length + R.length) : Nat) : Int) + 1 ≤ 4611686018427387904 ∧ (full = true → (s ++ [32]).length + (d + (xs.length + R.length)) + 1 ≤ 140737488355328)) := ⟨by simp only [List.length_append, List.length_cons, List.length_nil]; omega, fun h => by have := q2 h; simp only [List.length_append, List.length_cons, List.length_nil]; omega⟩
          have HF1 : Aside0 (((s.length : Nat) : Int) + 1 ≤ 4611686018427387904 ∧ (full = true → s.length + 1 ≤ 140737488355328)) := ⟨by omega, fun h => by have := q2 h; omega⟩
          clear he hi0 hnf hT q1 q2 HT2 HQ1 HQ2
          go_quiet (fail)
          go_wp2_with fail
          refine (put.calls full w0.heap.size b s ((s.length : Nat) : Int) line [32] 1 _ (HPG1.out.step ((Ch.refl _ _).drewN _)) (by omega) (by have := HF1.out.1; simp only [List.length_cons, List.length_nil]; omega) hbb (by omega) (fun h => by have := HF1.out.2 h; simp only [List.length_cons, List.length_nil]; omega)).mono ?_
          rintro e W2 ⟨rfl, h2, hk2, hb2⟩
          have e5 : s ++ rep [32] 1 = s ++ [32] := by simp [rep]
          have e6 : ((s.length : Nat) : Int) + ((([32] : List UInt8).length * 1 : Nat) : Int) = (((s ++ [32]).length : Nat) : Int) := by simp
          rw [e5, e6] at h2
          have HPG2 := Aside0.mk h2
          have HX2 : Aside0 (W2.heap[wr.heap.size]? = some (.cells #[.int .i64 x.f0, .string (txt xs), .int .i64 x.f2] 31 (0, 0))) := ⟨hk2.keep _ _ _ _ HX1.out hz0 (by decide)⟩
          have HB2 := Aside0.mk ((pw_below_drewN HB1.out _).trans hb2)
          clear h2 hk2 hb2 e5 e6 y0 y1 y2 z3
          go_wp2_with fail
          obtain ⟨s2, hs2e⟩ : ∃ s2, s2 = s ++ [32] := ⟨_, rfl⟩
          rw [← hs2e] at HT3 HF2 HPG2
          have HT2 : Aside0 (T = s2 ++ (rep [10] d ++ (xs ++ txtA true x.f2 (l.drop (i + 1))))) := ⟨by rw [HT3.out, hR]⟩
          have HFF := Aside0.mk hR
          rw [hR] at HF2
          clear hs2e hR
          have e0 := zcell HX2.out 0 (.int .i64 x.f0) rfl
          have e1 := zcell HX2.out 1 (.string (txt xs)) rfl
          have e2 := zcell HX2.out 2 (.int .i64 x.f2) rfl
          obtain ⟨p2, v2, hb2⟩ := HPG2.out.block
          have d3 := zcell hb2 3 (.int .i64 line) rfl
          have hs1 : wrap64 (x.f2 - line) = (d : Int) := by unfold wrap64; have := HDL.out; omega
          have hs2 : IntKind.i64.wrap (x.f2 - line) = (d : Int) := by rw [IntKind.wrap_i64]; have := HDL.out; omega
          have hnb : ¬ (wr.heap.size = b) := hz0
          clear hb2
          go_region_with (go_at_call 67; refine (put.calls full w0.heap.size b s2 ((s2.length : Nat) : Int) line [10] d _ (by first | exact HPG2.out | exact HPG2.out.step ((Ch.refl _ _).drew)) (by omega) (by have := HF2.out.1; simp only [List.length_cons, List.length_nil]; omega) hbb (by have := HDL.out; omega) (fun h => by have := HF2.out.2 h; simp only [List.length_cons, List.length_nil]; omega)).mono ?_; rintro e W3 ⟨rfl, h3, hk3, hb3⟩; have H3 := Aside0.mk h3; have HX3 : Aside0 (W3.heap[wr.heap.size]? = some (.cells #[.int .i64 x.f0, .string (txt xs), .int .i64 x.f2] 31 (0, 0))) := ⟨hk3.keep _ _ _ _ HX2.out hz0 (by decide)⟩; have HB3 := Aside0.mk (by first | exact HB2.out.trans hb3 | exact (Below.drew HB2.out).trans hb3); clear h3 hk3 hb3)
          all_goals
            clear e0 e1 e2 d3 hs1 hs2
            have e1 := zcell HX3.out 1 (.string (txt xs)) rfl
            go_wp2_with fail
            refine (put.calls full w0.heap.size b _ _ line xs 1 _ H3.out (by omega) (by have := HF2.out.1; simp only [List.length_cons, List.length_nil]; omega) hbb (by omega) (fun h => by have := HF2.out.2 h; simp only [List.length_append, rep_len, List.length_cons, List.length_nil]; omega)).mono ?_
            rintro e W4 ⟨rfl, h4, hk4, hb4⟩
            have HX4 : Aside0 (W4.heap[wr.heap.size]? = some (.cells #[.int .i64 x.f0, .string (txt xs), .int .i64 x.f2] 31 (0, 0))) := ⟨hk4.keep _ _ _ _ HX3.out hz0 (by decide)⟩
            have HB4 := Aside0.mk (HB3.out.trans hb4)
            obtain ⟨p4, v4, hb4'⟩ := h4.block
            have H4 := Aside0.mk h4
            have d3 := zcell hb4' 3 (.int .i64 line) rfl
            have f3 := zfree hb4' 3
            have e2 := zcell HX4.out 2 (.int .i64 x.f2) rfl
            clear h4 hk4 hb4 hb4' e1
            go_wp2_with fail
            have h5 := H4.out.line x.f2
            have e5 : s2 ++ rep [10] d ++ rep xs 1 = s2 ++ (rep [10] d ++ xs) := by simp [rep]
            have e6 : ((s2.length : Nat) : Int) + ((([10] : List UInt8).length * d : Nat) : Int) + ((xs.length * 1 : Nat) : Int) = (((s2 ++ (rep [10] d ++ xs)).length : Nat) : Int) := by simp only [List.length_append, rep_len, List.length_cons, List.length_nil]; omega
            rw [e5, e6] at h5
            have hB5 := below_ch HB4.out ((Ch.refl (fun k => k = b) W4).set (p := ⟨b, 3, none⟩) (.inl rfl) (.int .i64 x.f2)) HB4.out.size (fun k h => by omega)
            refine ⟨⟨i + 1, s2 ++ (rep [10] d ++ xs), x.f2, true, by omega, by have := HLN.out; omega, by go_num, ⟨by symm; exact decide_eq_true (by omega)⟩, ⟨by rw [HT2.out]; simp⟩, HOK2, ⟨by omega, ?_, fun h => ?_⟩, ⟨h5⟩, ⟨hB5⟩⟩, by simp [intOf]; omega⟩
            · have := HF2.out.1; simp only [List.length_append, rep_len, List.length_cons, List.length_nil]; omega
            · have := HF2.out.2 h; simp only [List.length_append, rep_len, List.length_cons, List.length_nil]; omega
        · have hb0 : (x.f2 == line) = true := beq_iff_eq.mpr he
          have hb1 : decide (0 < i) = false := decide_eq_false hi0
          have hnf : ¬ nf = true := by rw [HNF.out]; intro h; have := of_decide_eq_true h; omega
          have hT := HT2.out
          have q1 := HQ1.out
          have q2 := HQ2.out
          rw [if_neg (fun h => hnf h.2)] at hT q1 q2
          simp only [List.nil_append, List.length_append, rep_len, List.length_cons, List.length_nil] at hT q1 q2
          clear HT2
          have HT2 := Aside0.mk hT
          have HF2 : Aside0 (((s.length : Nat) : Int) + ((d + (xs.length + (txtA true x.f2 (l.drop (i + 1))).length) : Nat) : Int) + 1 ≤ 4611686018427387904 ∧ (full = true → s.length + (d + (xs.length + (txtA true x.f2 (l.drop (i + 1))).length)) + 1 ≤ 140737488355328)) := ⟨by omega, fun h => by have := q2 h; omega⟩
          clear he hi0 hnf hT q1 q2 HQ1 HQ2 hR
          go_quiet (fail)
          go_wp2_with fail
          have HPG2 := Aside0.mk (HPG1.out.step ((Ch.refl _ _).drewN nq))
          have HX2 := Aside0.mk (((Ch.refl (fun _ => False) _).drewN nq).heap HX1.out (fun h => h))
          have HB2 := Aside0.mk (pw_below_drewN HB1.out nq)
          clear y0 y1 y2 z3
          generalize (wr.alloc (.cells #[.int .i64 x.f0, .string (txt xs), .int .i64 x.f2] 31 (0, 0))).drewN nq = W2 at HPG2 HX2 HB2 ⊢
          have e0 := zcell HX2.out 0 (.int .i64 x.f0) rfl
          have e1 := zcell HX2.out 1 (.string (txt xs)) rfl
          have e2 := zcell HX2.out 2 (.int .i64 x.f2) rfl
          obtain ⟨p2, v2, hb2⟩ := HPG2.out.block
          have d3 := zcell hb2 3 (.int .i64 line) rfl
          have hs1 : wrap64 (x.f2 - line) = (d : Int) := by unfold wrap64; have := HDL.out; omega
          have hs2 : IntKind.i64.wrap (x.f2 - line) = (d : Int) := by rw [IntKind.wrap_i64]; have := HDL.out; omega
          have hnb : ¬ (wr.heap.size = b) := hz0
          clear hb2
          go_region_with (go_at_call 67; refine (put.calls full w0.heap.size b s ((s.length : Nat) : Int) line [10] d _ (by first | exact HPG2.out | exact HPG2.out.step ((Ch.refl _ _).drew)) (by omega) (by have := HF2.out.1; simp only [List.length_cons, List.length_nil]; omega) hbb (by have := HDL.out; omega) (fun h => by have := HF2.out.2 h; simp only [List.length_cons, List.length_nil]; omega)).mono ?_; rintro e W3 ⟨rfl, h3, hk3, hb3⟩; have H3 := Aside0.mk h3; have HX3 : Aside0 (W3.heap[wr.heap.size]? = some (.cells #[.int .i64 x.f0, .string (txt xs), .int .i64 x.f2] 31 (0, 0))) := ⟨hk3.keep _ _ _ _ HX2.out hz0 (by decide)⟩; have HB3 := Aside0.mk (by first | exact HB2.out.trans hb3 | exact (Below.drew HB2.out).trans hb3); clear h3 hk3 hb3)
          all_goals
            clear e0 e1 e2 d3 hs1 hs2
            have e1 := zcell HX3.out 1 (.string (txt xs)) rfl
            go_wp2_with fail
            refine (put.calls full w0.heap.size b _ _ line xs 1 _ H3.out (by omega) (by have := HF2.out.1; simp only [List.length_cons, List.length_nil]; omega) hbb (by omega) (fun h => by have := HF2.out.2 h; simp only [List.length_append, rep_len, List.length_cons, List.length_nil]; omega)).mono ?_
            rintro e W4 ⟨rfl, h4, hk4, hb4⟩
            have HX4 : Aside0 (W4.heap[wr.heap.size]? = some (.cells #[.int .i64 x.f0, .string (txt xs), .int .i64 x.f2] 31 (0, 0))) := ⟨hk4.keep _ _ _ _ HX3.out hz0 (by decide)⟩
            have HB4 := Aside0.mk (HB3.out.trans hb4)
            obtain ⟨p4, v4, hb4'⟩ := h4.block
            have H4 := Aside0.mk h4
            have d3 := zcell hb4' 3 (.int .i64 line) rfl
            have f3 := zfree hb4' 3
            have e2 := zcell HX4.out 2 (.int .i64 x.f2) rfl
            clear h4 hk4 hb4 hb4' e1
            go_wp2_with fail
            have h5 := H4.out.line x.f2
            have e5 : s ++ rep [10] d ++ rep xs 1 = s ++ (rep [10] d ++ xs) := by simp [rep]
            have e6 : ((s.length : Nat) : Int) + ((([10] : List UInt8).length * d : Nat) : Int) + ((xs.length * 1 : Nat) : Int) = (((s ++ (rep [10] d ++ xs)).length : Nat) : Int) := by simp only [List.length_append, rep_len, List.length_cons, List.length_nil]; omega
            rw [e5, e6] at h5
            have hB5 := below_ch HB4.out ((Ch.refl (fun k => k = b) W4).set (p := ⟨b, 3, none⟩) (.inl rfl) (.int .i64 x.f2)) HB4.out.size (fun k h => by omega)
            refine ⟨⟨i + 1, s ++ (rep [10] d ++ xs), x.f2, true, by omega, by have := HLN.out; omega, by go_num, ⟨by symm; exact decide_eq_true (by omega)⟩, ⟨by rw [HT2.out]; simp⟩, HOK2, ⟨by omega, ?_, fun h => ?_⟩, ⟨h5⟩, ⟨hB5⟩⟩, by simp [intOf]; omega⟩
            · have := HF2.out.1; simp only [List.length_append, rep_len, List.length_cons, List.length_nil]; omega
            · have := HF2.out.2 h; simp only [List.length_append, rep_len, List.length_cons, List.length_nil]; omega
      · have hb0 : (x.f2 == line) = false := beq_eq_false_iff_ne.mpr he
        have hT := HT2.out
        have q1 := HQ1.out
        have q2 := HQ2.out
        rw [if_neg (fun h => he h.1)] at hT q1 q2
        simp only [List.nil_append, List.length_append, rep_len, List.length_cons, List.length_nil] at hT q1 q2
        clear HT2
        have HT2 := Aside0.mk hT
        have HF2 : Aside0 (((s.length : Nat) : Int) + ((d + (xs.length + (txtA true x.f2 (l.drop (i + 1))).length) : Nat) : Int) + 1 ≤ 4611686018427387904 ∧ (full = true → s.length + (d + (xs.length + (txtA true x.f2 (l.drop (i + 1))).length)) + 1 ≤ 140737488355328)) := ⟨by omega, fun h => by have := q2 h; omega⟩
        clear he hT q1 q2 HQ1 HQ2 hR
        go_quiet (fail)
        go_wp2_with fail
        have HPG2 := Aside0.mk (HPG1.out.step ((Ch.refl _ _).drewN nq))
        have HX2 := Aside0.mk (((Ch.refl (fun _ => False) _).drewN nq).heap HX1.out (fun h => h))
        have HB2 := Aside0.mk (pw_below_drewN HB1.out nq)
        clear y0 y1 y2 z3
        generalize (wr.alloc (.cells #[.int .i64 x.f0, .string (txt xs), .int .i64 x.f2] 31 (0, 0))).drewN nq = W2 at HPG2 HX2 HB2 ⊢
        have e0 := zcell HX2.out 0 (.int .i64 x.f0) rfl
        have e1 := zcell HX2.out 1 (.string (txt xs)) rfl
        have e2 := zcell HX2.out 2 (.int .i64 x.f2) rfl
        obtain ⟨p2, v2, hb2⟩ := HPG2.out.block
        have d3 := zcell hb2 3 (.int .i64 line) rfl
        have hs1 : wrap64 (x.f2 - line) = (d : Int) := by unfold wrap64; have := HDL.out; omega
        have hs2 : IntKind.i64.wrap (x.f2 - line) = (d : Int) := by rw [IntKind.wrap_i64]; have := HDL.out; omega
        have hnb : ¬ (wr.heap.size = b) := hz0
        clear hb2
        go_region_with (go_at_call 67; refine (put.calls full w0.heap.size b s ((s.length : Nat) : Int) line [10] d _ (by first | exact HPG2.out | exact HPG2.out.step ((Ch.refl _ _).drew)) (by omega) (by have := HF2.out.1; simp only [List.length_cons, List.length_nil]; omega) hbb (by have := HDL.out; omega) (fun h => by have := HF2.out.2 h; simp only [List.length_cons, List.length_nil]; omega)).mono ?_; rintro e W3 ⟨rfl, h3, hk3, hb3⟩; have H3 := Aside0.mk h3; have HX3 : Aside0 (W3.heap[wr.heap.size]? = some (.cells #[.int .i64 x.f0, .string (txt xs), .int .i64 x.f2] 31 (0, 0))) := ⟨hk3.keep _ _ _ _ HX2.out hz0 (by decide)⟩; have HB3 := Aside0.mk (by first | exact HB2.out.trans hb3 | exact (Below.drew HB2.out).trans hb3); clear h3 hk3 hb3)
        all_goals
          clear e0 e1 e2 d3 hs1 hs2
          have e1 := zcell HX3.out 1 (.string (txt xs)) rfl
          go_wp2_with fail
          refine (put.calls full w0.heap.size b _ _ line xs 1 _ H3.out (by omega) (by have := HF2.out.1; simp only [List.length_cons, List.length_nil]; omega) hbb (by omega) (fun h => by have := HF2.out.2 h; simp only [List.length_append, rep_len, List.length_cons, List.length_nil]; omega)).mono ?_
          rintro e W4 ⟨rfl, h4, hk4, hb4⟩
          have HX4 : Aside0 (W4.heap[wr.heap.size]? = some (.cells #[.int .i64 x.f0, .string (txt xs), .int .i64 x.f2] 31 (0, 0))) := ⟨hk4.keep _ _ _ _ HX3.out hz0 (by decide)⟩
          have HB4 := Aside0.mk (HB3.out.trans hb4)
          obtain ⟨p4, v4, hb4'⟩ := h4.block
          have H4 := Aside0.mk h4
          have d3 := zcell hb4' 3 (.int .i64 line) rfl
          have f3 := zfree hb4' 3
          have e2 := zcell HX4.out 2 (.int .i64 x.f2) rfl
          clear h4 hk4 hb4 hb4' e1
          go_wp2_with fail
          have h5 := H4.out.line x.f2
          have e5 : s ++ rep [10] d ++ rep xs 1 = s ++ (rep [10] d ++ xs) := by simp [rep]
          have e6 : ((s.length : Nat) : Int) + ((([10] : List UInt8).length * d : Nat) : Int) + ((xs.length * 1 : Nat) : Int) = (((s ++ (rep [10] d ++ xs)).length : Nat) : Int) := by simp only [List.length_append, rep_len, List.length_cons, List.length_nil]; omega
          rw [e5, e6] at h5
          have hB5 := below_ch HB4.out ((Ch.refl (fun k => k = b) W4).set (p := ⟨b, 3, none⟩) (.inl rfl) (.int .i64 x.f2)) HB4.out.size (fun k h => by omega)
          refine ⟨⟨i + 1, s ++ (rep [10] d ++ xs), x.f2, true, by omega, by have := HLN.out; omega, by go_num, ⟨by symm; exact decide_eq_true (by omega)⟩, ⟨by rw [HT2.out]; simp⟩, HOK2, ⟨by omega, ?_, fun h => ?_⟩, ⟨h5⟩, ⟨hB5⟩⟩, by simp [intOf]; omega⟩
          · have := HF2.out.1; simp only [List.length_append, rep_len, List.length_cons, List.length_nil]; omega
          · have := HF2.out.2 h; simp only [List.length_append, rep_len, List.length_cons, List.length_nil]; omega
    · have hdr : l.drop i = [] := List.drop_eq_nil_of_le (by omega)
      have hT := HT.out
      have hfit := HFIT.out
      rw [hdr] at hT hfit
      simp only [txtA, List.append_nil] at hT hfit
      have hTs : s = T := by rw [hT]
      subst hTs
      clear hT HT HFIT HOK hdr
      by_cases hl0 : l.length = 0
      · have HL0 := Aside0.mk hl0
        have hg : decide ((0 : Int) < (l.length : Int)) = false := decide_eq_false (by omega)
        have hg2 : decide (0 < l.length) = false := decide_eq_false (by omega)
        have hnl : ¬ (0 : Int) < (l.length : Int) := by omega
        clear hl0
        go_wp2_with fail
        go_end0
        exact ⟨rfl, ⟨_, by rw [HTA.out, if_pos HL0.out, List.append_nil]; exact HPG.out⟩, HB.out⟩
      · have HL0 := Aside0.mk hl0
        have hg : decide ((0 : Int) < (l.length : Int)) = true := decide_eq_true (by omega)
        have hg2 : decide (0 < l.length) = true := decide_eq_true (by omega)
        obtain ⟨q0, q1, q2⟩ := hfit
        have HF1 : Aside0 (((s.length : Nat) : Int) + 1 ≤ 4611686018427387904 ∧ (full = true → s.length + 1 ≤ 140737488355328)) := ⟨by simpa using q1, fun h => by simpa using q2 h⟩
        clear hl0 q0 q1 q2
        go_wp2_with fail
        refine (put.calls full w0.heap.size b s ((s.length : Nat) : Int) line [10] 1 _ HPG.out (by omega) (by have := HF1.out.1; simp only [List.length_cons, List.length_nil]; omega) hbb (by omega) (fun h => by have := HF1.out.2 h; simp only [List.length_cons, List.length_nil]; omega)).mono ?_
        rintro e W2 ⟨rfl, h2, hk2, hb2⟩
        have e5 : s ++ rep [10] 1 = s ++ [10] := by simp [rep]
        have e6 : ((s.length : Nat) : Int) + ((([10] : List UInt8).length * 1 : Nat) : Int) = (((s ++ [10]).length : Nat) : Int) := by simp
        rw [e5, e6] at h2
        have H2 := Aside0.mk h2
        have HB2 := Aside0.mk (HB.out.trans hb2)
        clear h2 hk2 hb2 e5 e6
        go_wp2_with fail
        go_end0
        exact ⟨rfl, ⟨_, by rw [HTA.out, if_neg HL0.out]; exact H2.out⟩, HB2.out⟩

-- by hand: lexprint.inc
theorem checkT_ok (t : S31) (h : checkT t = 0) : 1 ≤ t.f2 ∧ t.f1.size ≤ 65536 := by
  unfold checkT at h
  by_cases c0 : t.f0 < 1
  · rw [if_pos c0] at h; exact absurd h (by decide)
  rw [if_neg c0] at h
  by_cases c1 : t.f0 > 3
  · rw [if_pos c1] at h; exact absurd h (by decide)
  rw [if_neg c1] at h
  by_cases c2 : (tokF t.f1).2.2 ≠ 0
  · rw [if_pos c2] at h; exact absurd h (by decide)
  rw [if_neg c2] at h
  by_cases c3 : (tokF t.f1).1.length ≠ 1
  · rw [if_pos c3] at h; exact absurd h (by decide)
  rw [if_neg c3] at h
  by_cases c4 : isTok (tokF t.f1).1 t = false
  · rw [if_pos c4] at h; exact absurd h (by decide)
  rw [if_neg c4] at h
  by_cases c5 : t.f2 < 1
  · rw [if_pos c5] at h; exact absurd h (by decide)
  refine ⟨by omega, ?_⟩
  apply Classical.byContradiction
  intro hn
  apply c2
  unfold tokF
  rw [if_pos (by omega)]
  decide
theorem ck_ok : ∀ (l : List S31) (last line : Int), (line ≤ last ∨ line ≤ 1) → ckL last l = 0 → okA line l
  | [], _, _, _, _ => trivial
  | t :: r, last, line, hl, h => by
    unfold ckL at h
    by_cases c0 : checkT t = 0
    · rw [if_pos c0] at h
      obtain ⟨q1, q2⟩ := checkT_ok t c0
      by_cases c1 : t.f2 < last
      · rw [if_pos c1] at h; exact absurd h (by decide)
      rw [if_neg c1] at h
      by_cases c2 : t.f2 > 65536
      · rw [if_pos c2] at h; exact absurd h (by decide)
      rw [if_neg c2] at h
      exact ⟨by omega, by omega, q2, ck_ok r t.f2 t.f2 (.inl (Int.le_refl _)) h⟩
    · rw [if_neg c0] at h; exact absurd h c0
theorem txtA_len : ∀ (l : List S31) (nf : Bool) (line : Int), line ≤ 65536 → okA line l → (((txtA nf line l).length : Nat) : Int) ≤ (l.length : Int) * 65537 + (65536 - line)
  | [], _, _, h, _ => by simp [txtA]; omega
  | t :: r, nf, line, h, ho => by
    obtain ⟨o1, o2, o3, o4⟩ := ho
    have ih := txtA_len r true t.f2 o2 o4
    rw [txtA_step]
    have h1 : ((if t.f2 = line ∧ nf = true then [32] else []) : List UInt8).length ≤ 1 := by split <;> simp
    have h2 : t.f1.data.toList.length = t.f1.size := Array.length_toList
    simp only [List.length_append, rep_len, List.length_cons, List.length_nil, h2]
    generalize ((if t.f2 = line ∧ nf = true then [32] else []) : List UInt8).length = q at h1 ⊢
    omega
def printL (l : List S31) : ByteArray × Int := if ckL 0 l = 0 then (if (textA l).length > 65536 then (⟨#[]⟩, 5) else (txt (textA l), 0)) else (⟨#[]⟩, ckL 0 l)
def lex_Print.f (l : List S31) : Option (ByteArray × Int) := if l.length < 4398046511104 then some (printL l) else none
set_option maxRecDepth 100000 in
set_option maxHeartbeats 4000000 in
theorem lex_Print.calls (A0 : Option Addr) (c0 : Nat) (l0 : List S31) (r0 : ByteArray) (r1 : Int) (w : World) (hr0 : Kd.C k31 w A0 l0.length l0) (hc0 : l0.length ≤ c0) (h : lex_Print.f l0 = some (r0, r1)) :
    Calls Try.prog 25 #[.slice A0 l0.length c0] w fun e w' => e = .returned (.tuple #[.string r0, .int .i64 r1]) ∧ Below w.heap.size w w' := by
  have hu103 := Try.underlying103
  unfold lex_Print.f at h
  have hsm : l0.length < 4398046511104 := by
    apply Classical.byContradiction
    intro hn
    rw [if_neg hn] at h
    cases h
  rw [if_pos hsm] at h
  have h := Option.some.inj h
  unfold printL at h
  have HR := Aside0.mk hr0
  obtain ⟨k, hk⟩ : ∃ k, k = ckL 0 l0 := ⟨_, rfl⟩
  have HP : Aside0 (k = 0 → okA 1 l0) := ⟨fun h => ck_ok l0 0 1 (.inr (Int.le_refl _)) (by rw [← hk]; exact h)⟩
  rw [← hk] at h
  have HK := Aside0.mk hk
  clear hk hr0
  by_cases hk0 : k = 0
  · subst hk0
    rw [if_pos rfl] at h
    have HOK := Aside0.mk (HP.out rfl)
    have HLN := Aside0.mk (txtA_len l0 false 1 (by omega) HOK.out)
    have HSM := Aside0.mk hsm
    have hT1 : (((textA l0).length : Nat) : Int) ≤ (l0.length : Int) * 65537 + 65536 := by
      have := HLN.out
      unfold textA
      rw [List.length_append]
      split
      · simp only [List.length_nil]; omega
      · simp only [List.length_cons, List.length_nil]; omega
    have HFF : Aside0 (fitA false 0 [] (txtA false 1 l0)) := ⟨by omega, by have := HLN.out; omega, fun h => by cases h⟩
    obtain ⟨n, hn⟩ : ∃ n, n = (textA l0).length := ⟨_, rfl⟩
    have hn2 : (n : Int) ≤ 4611686018427387904 := by rw [hn]; omega
    rw [← hn] at h
    have HN := Aside0.mk hn
    clear hT1 hn HP hsm
    by_cases hbig : n > 65536
    · rw [if_pos hbig] at h
      injection h with h1 h2
      subst h1 h2
      go_enter Try.func25, Try.ntmps25
      go_wp2_with fail
      refine (check.calls _ _ _ _ HR.out hc0).mono ?_
      rintro e w1 ⟨rfl, hb⟩
      rw [← HK.out]
      have HB := Aside0.mk hb
      clear hb
      go_wp2_with fail
      refine (all.calls false w1.heap.size A0 c0 l0 0 w _ HR.out hc0 (below_alloc HB.out _) HB.out.size ⟨_, _, heap_alloc_new w1 _⟩ HOK.out HFF.out).mono ?_
      rintro e w2 ⟨rfl, ⟨line1, hpg⟩, hb⟩
      rw [← HN.out] at hpg
      obtain ⟨p, v, hpg⟩ := hpg
      have c2 := zcell hpg 2 (.int .i64 n) rfl
      have HB2 := Aside0.mk hb
      clear hb hpg
      go_wp2_with fail
      go_ret2
      exact ⟨rfl, HB2.out⟩
    · rw [if_neg hbig] at h
      injection h with h1 h2
      subst h1 h2
      have HFT : Aside0 (fitA true 0 [] (txtA false 1 l0)) := ⟨by omega, by have := HLN.out; have := HSM.out; omega, fun _ => by
        have h3 : (txtA false 1 l0).length ≤ (textA l0).length := by unfold textA; rw [List.length_append]; omega
        have := HN.out
        simp only [List.length_nil]; omega⟩
      go_enter Try.func25, Try.ntmps25
      go_wp2_with fail
      refine (check.calls _ _ _ _ HR.out hc0).mono ?_
      rintro e w1 ⟨rfl, hb⟩
      rw [← HK.out]
      have HB := Aside0.mk hb
      clear hb
      go_wp2_with fail
      refine (all.calls false w1.heap.size A0 c0 l0 0 w _ HR.out hc0 (below_alloc HB.out _) HB.out.size ⟨_, _, heap_alloc_new w1 _⟩ HOK.out HFF.out).mono ?_
      rintro e w2 ⟨rfl, ⟨line1, hpg⟩, hb⟩
      rw [← HN.out] at hpg
      obtain ⟨p, v, hpg⟩ := hpg
      have c2 := zcell hpg 2 (.int .i64 n) rfl
      have HB2 := Aside0.mk hb
      clear hb hpg
      go_wp2_with fail
      refine (all.calls true w2.heap.size A0 c0 l0 0 w _ HR.out hc0 (below_alloc HB2.out _) HB2.out.size (bld_fresh 103 [.int .i64 0, .int .i64 0, .bool true] w2 w.heap.size HB2.out.size) HOK.out HFT.out).mono ?_
      rintro e w3 ⟨rfl, ⟨line2, hpg⟩, hb⟩
      have HPG := Aside0.mk hpg
      have HB3 := Aside0.mk hb
      clear hb hpg c2
      go_wp2_with fail
      refine (bstring.calls 103 w.heap.size w2.heap.size (textA l0) _ _ HPG.out HB2.out.size).mono ?_
      rintro e w4 ⟨rfl, hb⟩
      have HB4 := Aside0.mk (HB3.out.trans hb)
      clear hb
      go_wp2_with fail
      go_ret2
      exact ⟨rfl, HB4.out⟩
  · rw [if_neg hk0] at h
    injection h with h1 h2
    subst h1 h2
    have b1 : (k != 0) = true := bne_iff_ne.mpr hk0
    go_enter Try.func25, Try.ntmps25
    go_wp2_with fail
    refine (check.calls _ _ _ _ HR.out hc0).mono ?_
    rintro e w1 ⟨rfl, hb⟩
    rw [← HK.out]
    have HB := Aside0.mk hb
    clear hb
    go_wp2_with fail
    go_ret2
    exact ⟨rfl, HB.out⟩

end Go.Proofs.Ytoloneoeojoiaaa.ELexMay
