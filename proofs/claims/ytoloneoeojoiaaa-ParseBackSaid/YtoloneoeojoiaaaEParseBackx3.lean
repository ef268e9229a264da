-- Written by a program of this seat, over a copy of the print; parts by hand.
import Derived.Test.YtoloneoeojoiaaaEParseBackx0
import Derived.Test.YtoloneoeojoiaaaEParseBackx1
import Derived.Test.YtoloneoeojoiaaaEParseBackx2
namespace Go.Proofs.Ytoloneoeojoiaaa.EParseBack
open Go.RowKit Go.Proofs.YtoloneoeojoiaaaW.PrintWords Go.Proofs.YtoloneoeojoiaaaW.PrintLast Go.Proofs.YtoloneoeojoiaaaW.PrintMore
attribute [local go_sem] max2_int min2_int max_two min_two max_three min_three max_four min_four   -- for this text's walks alone
set_option linter.unusedVariables false
set_option linter.unusedSimpArgs false

-- by hand: lexcheck.inc
/-- The three of a text. -/
def tokF (s : ByteArray) : List S31 × Int × Int := if (s.size : Int) > 65536 then ([], 0, 5) else toksL (s.size + 1) s.data.toList 1 []
theorem tok_f (s : ByteArray) : lex_Tokens.f s = some (tokF s) := by
  unfold lex_Tokens.f tokF
  split <;> rfl
/-- Is the first one this one, on line 1? -/
def isTok (l : List S31) (t : S31) : Bool := (rd_T31 l 0).f0 == t.f0 && ((rd_T31 l 0).f1.toList == t.f1.toList && (rd_T31 l 0).f2 == 1)
def checkT (t : S31) : Int :=
  if t.f0 < 1 then 23 else if t.f0 > 3 then 23 else if (tokF t.f1).2.2 ≠ 0 then 32 else if (tokF t.f1).1.length ≠ 1 then 32 else if isTok (tokF t.f1).1 t = false then 32 else if t.f2 < 1 then 4 else 0
def lex_Check.f (a0_0 : Int) (a0_1 : ByteArray) (a0_2 : Int) : Option Int := some (checkT ⟨a0_0, a0_1, a0_2⟩)
theorem neq31 (w : World) (x0 y0 : Int) (x1 y1 : ByteArray) (x2 y2 : Int) :
    (binOp .neq 31 (.agg #[.int .i64 x0, .string x1, .int .i64 x2]) (.agg #[.int .i64 y0, .string y1, .int .i64 y2])).run Try.prog w = .ok (.bool (!(x0 == y0 && (x1.toList == y1.toList && x2 == y2)))) w := by
  simp only [binOp]
  simp [Op.equal, Op.maxDepth, eqA31 9998 w x0 y0 x1 y1 x2 y2]
theorem below_ls {B : Nat} {w0 w w1 : World} (h : Below B w0 w) (k : Below w.heap.size w w1) (hB : B ≤ w.heap.size) : Below B w0 w1 := below_ch h (Ch.of_below k (fun _ => False)) hB (fun _ h => h.elim)
set_option maxRecDepth 100000 in
set_option maxHeartbeats 2000000 in
theorem lex_Check.calls (a0_0 : Int) (a0_1 : ByteArray) (a0_2 : Int) (r : Int) (w : World) (h : lex_Check.f a0_0 a0_1 a0_2 = some r) :
    Calls Try.prog 26 #[.agg #[.int .i64 a0_0, .string a0_1, .int .i64 a0_2]] w fun e w' => e = .returned (.int .i64 r) ∧ Below w.heap.size w w' := by
  have hu31 := Try.underlying31
  have h := Option.some.inj h
  unfold checkT at h
  simp only [] at h
  by_cases c0 : a0_0 < 1
  · rw [if_pos c0] at h
    subst h
    go_enter Try.func26, Try.ntmps26
    go_wp2_with fail
    go_ret
    exact ⟨rfl, below_alloc (Below.refl _ _) _⟩
  rw [if_neg c0] at h
  by_cases c1 : a0_0 > 3
  · rw [if_pos c1] at h
    subst h
    go_enter Try.func26, Try.ntmps26
    go_wp2_with fail
    go_ret
    exact ⟨rfl, below_alloc (Below.refl _ _) _⟩
  rw [if_neg c1] at h
  obtain ⟨⟨l, li, er⟩, hR⟩ : ∃ R, R = tokF a0_1 := ⟨_, rfl⟩
  rw [← hR] at h
  have HT : Aside0 (lex_Tokens.f a0_1 = some (l, li, er)) := ⟨by rw [tok_f, hR]⟩
  clear hR
  simp only [] at h
  have HX0 := Aside0.mk (heap_alloc_new w (.cells #[.int .i64 a0_0, .string a0_1, .int .i64 a0_2] 31 (0, 0)))
  have HBW := Aside0.mk (below_alloc (Below.refl w.heap.size w) (.cells #[.int .i64 a0_0, .string a0_1, .int .i64 a0_2] 31 (0, 0)))
  by_cases c2 : er = 0
  · subst c2
    rw [if_neg (by simp)] at h
    by_cases c3 : l.length = 1
    · rw [if_neg (by rw [c3]; simp)] at h
      obtain ⟨x, rfl⟩ : ∃ x, l = [x] := by match l, c3 with | [x], _ => exact ⟨x, rfl⟩
      clear c3
      obtain ⟨m, hm⟩ : ∃ m, m = isTok [x] ⟨a0_0, a0_1, a0_2⟩ := ⟨_, rfl⟩
      rw [← hm] at h
      have hm2 : m = (x.f0 == a0_0 && (x.f1.toList == a0_1.toList && x.f2 == 1)) := hm
      have HM := Aside0.mk hm2
      clear hm hm2
      go_enter Try.func26, Try.ntmps26
      go_wp2_with fail
      refine (lex_Tokens.calls a0_1 [x] li 0 _ HT.out).mono ?_
      rintro e w1 ⟨v, rfl, hv, hb⟩
      obtain ⟨g, cap, rfl, _, _, _⟩ := Kd.R_form hv (by simp)
      have hX := (Ch.of_below hb (fun _ => False)).heap HX0.out (fun h => h)
      have x0 := zcell hX 0 (.int .i64 a0_0) rfl
      have x1 := zcell hX 1 (.string a0_1) rfl
      have x2 := zcell hX 2 (.int .i64 a0_2) rfl
      obtain ⟨ad, ea, hx, hy, hz⟩ := at_T31 (Kd.R_reads' hv).2.2 0 (by omega) (by simp)
      cases ea
      have hx : w1.cell? ⟨g, 0, none⟩ = some (.int .i64 x.f0) := hx
      have hy : w1.cell? ⟨g, 1, none⟩ = some (.string x.f1) := hy
      have hz : w1.cell? ⟨g, 2, none⟩ = some (.int .i64 x.f2) := hz
      have HB := Aside0.mk (below_ls HBW.out hb HBW.out.size)
      clear hb hv hX
      have hq : ∀ W, (binOp .neq 31 (.agg #[.int .i64 x.f0, .string x.f1, .int .i64 x.f2]) (.agg #[.int .i64 a0_0, .string a0_1, .int .i64 1])).run Try.prog W = .ok (.bool (!m)) W := fun W => by rw [neq31, ← HM.out]
      cases m
      · rw [if_pos rfl] at h
        subst h
        go_wp2_with fail
        go_quiet (fail)
        go_wp2_with fail
        go_ret
        exact ⟨rfl, by repeat (first | exact HB.out | apply pw_below_drewN | apply below_drew1)⟩
      · rw [if_neg (by decide)] at h
        by_cases c4 : a0_2 < 1
        all_goals
          first | rw [if_pos c4] at h | rw [if_neg c4] at h
          subst h
          go_wp2_with fail
          go_quiet (fail)
          go_wp2_with fail
          go_ret
          exact ⟨rfl, by repeat (first | exact HB.out | apply pw_below_drewN | apply below_drew1)⟩
    · rw [if_pos c3] at h
      subst h
      have hl : decide ((l.length : Int) = 1) = false := decide_eq_false (by omega)
      have hl2 : ((l.length : Int) != 1) = true := bne_iff_ne.mpr (by omega)
      have hl3 : ¬ (l.length : Int) = 1 := by omega
      clear c3
      go_enter Try.func26, Try.ntmps26
      go_wp2_with fail
      refine (lex_Tokens.calls a0_1 l li 0 _ HT.out).mono ?_
      rintro e w1 ⟨v, rfl, hv, hb⟩
      obtain ⟨A, c, rfl⟩ := Kd.R_slice hv
      have hX := (Ch.of_below hb (fun _ => False)).heap HX0.out (fun h => h)
      have HB := Aside0.mk (below_ls HBW.out hb HBW.out.size)
      clear hb hv
      go_wp2_with fail
      go_quiet (fail)
      go_wp2_with fail
      go_ret
      exact ⟨rfl, by repeat (first | exact HB.out | apply pw_below_drewN | apply below_drew1)⟩
  · rw [if_pos c2] at h
    subst h
    have hl2 : (er != 0) = true := bne_iff_ne.mpr c2
    go_enter Try.func26, Try.ntmps26
    go_wp2_with fail
    refine (lex_Tokens.calls a0_1 l li er _ HT.out).mono ?_
    rintro e w1 ⟨v, rfl, hv, hb⟩
    obtain ⟨A, c, rfl⟩ := Kd.R_slice hv
    have HB := Aside0.mk (below_ls HBW.out hb HBW.out.size)
    clear hb hv
    go_wp2_with fail
    go_quiet (fail)
    go_wp2_with fail
    go_ret
    exact ⟨rfl, by repeat (first | exact HB.out | apply pw_below_drewN | apply below_drew1)⟩

-- NOT PRINTED: function 57 (parse_parser_structs)

-- NOT PRINTED: function 58 (parse_parser_enums)

-- NOT PRINTED: function 59 (parse_parser_services)

-- NOT PRINTED: function 39 (parse_parser_decls)

-- NOT PRINTED: function 19 (waybilllaw05_alive)

end Go.Proofs.Ytoloneoeojoiaaa.EParseBack

