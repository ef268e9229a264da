-- Written by a program of this seat, over a copy of the print; parts by hand.
import Derived.Test.YtaoffnhladfdcaaDoorEScriptTracex0
import Derived.Test.YtaoffnhladfdcaaDoorEScriptTracex3
namespace Go.Proofs.YtaoffnhladfdcaaDoor.EScriptTrace
open Go.RowKit Go.Proofs.YtaoffnhladfdcaaDoorW.PrintWords Go.Proofs.YtaoffnhladfdcaaDoorW.PrintLast Go.Proofs.YtaoffnhladfdcaaDoorW.PrintMore
attribute [local go_sem] max2_int min2_int max_two min_two max_three min_three max_four min_four   -- for this text's walks alone
set_option linter.unusedVariables false
set_option linter.unusedSimpArgs false

-- by hand: lexall.inc
/-! The lexer, plain: over what is left of a text. -/
def partB (c : UInt8) : Bool := (lex_part.f (c.toNat : Int)).getD false
def letterB (c : UInt8) : Bool := (lex_letter.f (c.toNat : Int)).getD false
def digitB (c : UInt8) : Bool := (lex_digit.f (c.toNat : Int)).getD false
def signs : List UInt8 := [123, 125, 40, 41, 91, 93, 59, 58, 44, 61, 63]
def signB (c : UInt8) : Bool := signs.contains c
def blankB (c : UInt8) : Bool := ([32, 9, 13] : List UInt8).contains c
theorem letter_f (c : UInt8) : lex_letter.f (c.toNat : Int) = some (letterB c) := by
  unfold letterB
  have h : ∃ b, lex_letter.f (c.toNat : Int) = some b := by unfold lex_letter.f; split <;> exact ⟨_, rfl⟩
  obtain ⟨b, hb⟩ := h
  rw [hb]; rfl
theorem digit_f (c : UInt8) : lex_digit.f (c.toNat : Int) = some (digitB c) := by
  unfold digitB
  have h : ∃ b, lex_digit.f (c.toNat : Int) = some b := by unfold lex_digit.f; split <;> exact ⟨_, rfl⟩
  obtain ⟨b, hb⟩ := h
  rw [hb]; rfl
theorem part_f (c : UInt8) : lex_part.f (c.toNat : Int) = some (partB c) := by
  unfold partB
  have h : ∃ b, lex_part.f (c.toNat : Int) = some b := by
    unfold lex_part.f
    rw [digit_f, Option.bind_some]
    split
    · exact ⟨_, rfl⟩
    · rw [letter_f, Option.bind_some]; split <;> exact ⟨_, rfl⟩
  obtain ⟨b, hb⟩ := h
  rw [hb]; rfl
/-- A text of letters. -/
def txt (l : List UInt8) : ByteArray := ⟨l.toArray⟩
theorem txt_size (l : List UInt8) : (txt l).size = l.length := by simp [txt, ByteArray.size]
theorem txt_data (s : ByteArray) : txt s.data.toList = s := by simp [txt]
theorem bt_txt (l : List UInt8) (i : Nat) (h : i < l.length) : bt (txt l) (i : Int) = ((l[i]).toNat : Int) := by
  unfold bt
  have h' : (i : Int).toNat < (txt l).size := by rw [txt_size]; omega
  rw [dif_pos h']
  simp [txt]
  rfl
theorem txt_toList (l : List UInt8) : (txt l).toList = l := ByteArray.toList_mk l
theorem txt_get (l : List UInt8) (i : Nat) (h : i < (txt l).size) : (txt l)[i]'h = l[i]'(by rw [txt_size] at h; exact h) := by simp [txt]; rfl
theorem txt_extract (l : List UInt8) (a b : Nat) : (txt l).extract a b = txt ((l.drop a).take (b - a)) := ByteArray.extract_mk l a b
theorem indexByte_spec (c : UInt8) : ∀ s : List UInt8, Lib.indexByte s c = if s.contains c = true then (((s.takeWhile (fun x => x != c)).length : Nat) : Int) else -1
  | [] => by simp [Lib.indexByte]
  | x :: t => by
    have ih := indexByte_spec c t
    unfold Lib.indexByte
    by_cases h : x = c
    · subst h; simp
    · have h1 : (x == c) = false := by simp [h]
      have h2 : (c == x) = false := by simp; exact fun e => h e.symm
      rw [h1, ih]
      simp only [Bool.false_eq_true, if_false, List.contains_cons, h2, Bool.false_or, List.takeWhile_cons, bne, h1, Bool.not_false, if_true]
      by_cases hc : t.contains c = true
      · rw [if_pos hc, if_pos hc]
        have : ((((t.takeWhile (fun x => !(x == c))).length : Nat) : Int) == -1) = false := by
          rw [beq_eq_false_iff_ne]; omega
        simp only [this, Bool.false_eq_true, if_false, List.length_cons]
        omega
      · rw [if_neg hc, if_neg hc]; rfl
theorem txt_list (l : List UInt8) : (txt l).data.toList = l := by simp [txt]
theorem tw_all {α : Type} (p : α → Bool) : ∀ s : List α, (∀ x ∈ s, p x = true) → s.takeWhile p = s
  | [], _ => rfl
  | x :: t, h => by rw [List.takeWhile_cons, if_pos (h x List.mem_cons_self), tw_all p t (fun y hy => h y (List.mem_cons_of_mem _ hy))]
theorem tw_len {α : Type} (p : α → Bool) : ∀ s : List α, (s.takeWhile p).length ≤ s.length
  | [] => Nat.le_refl _
  | x :: t => by
    rw [List.takeWhile_cons]
    split
    · have := tw_len p t; simp; omega
    · simp
/-- What stands between tokens is skipped; in: within a remark. -/
def sk : Bool → List UInt8 → Int → List UInt8 × Int
  | _, [], l => ([], l)
  | true, c :: t, l => if c = 10 then sk false t (l + 1) else sk true t l
  | false, c :: t, l => if c = 10 then sk false t (l + 1) else if c = 35 then sk true t l else if blankB c = true then sk false t l else (c :: t, l)
def runL (s : List UInt8) : List UInt8 := s.takeWhile partB
def kindL (s : List UInt8) : Int × Int :=
  if letterB (s.headD 0) = true ∧ s.length > 32 then (0, 31) else if letterB (s.headD 0) = true then (1, 0) else if s.headD 0 = 95 then (0, 32)
  else if (s.all digitB) = false ∨ s.length > 9 ∨ (s.headD 0 = 48 ∧ s.length > 1) then (0, 4) else (2, 0)
def nextL (s : List UInt8) (l : Int) : S98 × Int × List UInt8 :=
  if signB (s.headD 0) = true then (⟨3, txt (s.take 1), l⟩, 0, s.drop 1) else if runL s = [] then (z98, 32, s) else (⟨(kindL (runL s)).1, txt (runL s), l⟩, (kindL (runL s)).2, s.drop (runL s).length)
def toksL : Nat → List UInt8 → Int → List S98 → List S98 × Int × Int
  | 0, _, _, out => (out, 0, 0)
  | n + 1, s, l, out =>
    if (sk false s l).1 = [] then (out, 0, 0) else
      if (nextL (sk false s l).1 (sk false s l).2).2.1 = 0 then toksL n (nextL (sk false s l).1 (sk false s l).2).2.2 (sk false s l).2 (out ++ [(nextL (sk false s l).1 (sk false s l).2).1])
      else ([], (sk false s l).2, (nextL (sk false s l).1 (sk false s l).2).2.1)
def lex_Tokens.f (a0 : ByteArray) : Option (List S98 × Int × Int) := if (a0.size : Int) > 65536 then some ([], 0, 5) else some (toksL (a0.size + 1) a0.data.toList 1 [])
/-- Up to the line's end. -/
def remL (s : List UInt8) : List UInt8 := s.takeWhile (fun x => x != 10)
theorem remark.calls (s : List UInt8) (w : World) (hs : s.length ≤ 140737488351232) :
    Calls Tryd.prog 105 #[.string (txt s)] w fun e w' => e = .returned (.int .i64 ((remL s).length : Int)) ∧ w = w' := by
  have hi := indexByte_spec 10 s
  by_cases hm : s.contains 10 = true
  · rw [if_pos hm] at hi
    have HI := Lib.hid hi
    obtain ⟨n, hn⟩ : ∃ n, n = (remL s).length := ⟨_, rfl⟩
    have hn2 : (s.takeWhile (fun x => x != 10)).length = n := hn.symm
    have HN := Lib.hid hn2
    rw [← hn]
    clear hi hn hn2 hm
    go_enter Tryd.func105, Tryd.ntmps105
    go_wp2_with (go_at_call 106; refine (Tryd.strings_IndexByte _ _ _).mono ?_; rintro e w' ⟨rfl, rfl⟩; rw [txt_list, show (10 : Int).toNat.toUInt8 = 10 from rfl, HI.out, HN.out])
    go_ret
    exact ⟨rfl, rfl⟩
  · rw [if_neg hm] at hi
    have HI := Lib.hid hi
    have hlen : (remL s).length = s.length := by
      unfold remL
      rw [tw_all]
      intro x hx
      simp at hm
      simp only [bne_iff_ne]
      rintro rfl
      exact hm hx
    rw [hlen]
    clear hi hm hlen
    go_enter Tryd.func105, Tryd.ntmps105
    go_wp2_with (go_at_call 106; refine (Tryd.strings_IndexByte _ _ _).mono ?_; rintro e w' ⟨rfl, rfl⟩; rw [txt_list, show (10 : Int).toNat.toUInt8 = 10 from rfl, HI.out])
    go_ret
    exact ⟨by show Ending.returned (.int .i64 (((txt s).size : Nat) : Int)) = _; rw [txt_size], rfl⟩
theorem sk_rem (t : List UInt8) (l : Int) : sk true t l = sk false (t.drop (remL t).length) l := by
  induction t with
  | nil => rfl
  | cons c t ih =>
    by_cases h : c = 10
    · subst h
      simp [sk, remL]
    · have h2 : (c != 10) = true := by simpa using h
      unfold remL at ih ⊢
      rw [List.takeWhile_cons, if_pos h2, List.length_cons, List.drop_succ_cons, ← ih]
      simp only [sk]
      rw [if_neg h]
theorem sk_hash (s : List UInt8) (h : s.headD 0 = 35) (l : Int) : sk false s l = sk false (s.drop (remL s).length) l ∧ 0 < (remL s).length := by
  match s, h with
  | c :: t, h =>
    have h : c = 35 := h
    subst h
    have e : remL (35 :: t) = 35 :: remL t := by unfold remL; rw [List.takeWhile_cons, if_pos (by decide)]
    rw [e]
    refine ⟨?_, by simp⟩
    rw [List.length_cons, List.drop_succ_cons, ← sk_rem]
    simp [sk]
theorem sk_line (t : List UInt8) (l : Int) : sk false (10 :: t) l = sk false t (l + 1) := by simp [sk]
theorem sk_blank (c : UInt8) (t : List UInt8) (l : Int) (h1 : c ≠ 10) (h2 : c ≠ 35) (h3 : blankB c = true) : sk false (c :: t) l = sk false t l := by simp [sk, h1, h2, h3]
theorem sk_stop (c : UInt8) (t : List UInt8) (l : Int) (h1 : c ≠ 10) (h2 : c ≠ 35) (h3 : blankB c = false) : sk false (c :: t) l = (c :: t, l) := by simp [sk, h1, h2, h3]
theorem blank_idx (c : UInt8) : decide (Lib.indexByte [32, 9, 13] c < 0) = !blankB c := by
  rw [indexByte_spec]
  unfold blankB
  by_cases h : ([32, 9, 13] : List UInt8).contains c = true
  · rw [if_pos h, h, decide_eq_false (by omega)]; rfl
  · rw [if_neg h, Bool.eq_false_iff.mpr h]; rfl
attribute [local go_sem] txt_toList txt_size txt_get txt_extract
set_option maxHeartbeats 1000000 in
theorem skip.calls (b : Nat) (s : List UInt8) (l : Int) (w : World) (hb : w.heap[b]? = some (.cells #[.string (txt s), .int .i64 l] 143 (0, 0))) (h0 : 0 ≤ l) (h1 : l + s.length ≤ 140737488351232) :
    Calls Tryd.prog 62 #[.pointer (some ⟨b, 0, none⟩)] w fun e w' => e = .returned (.tuple #[]) ∧ Ch (fun k => k = b) w w' ∧ w'.heap[b]? = some (.cells #[.string (txt (sk false s l).1), .int .i64 (sk false s l).2] 143 (0, 0)) := by
  have HB := Aside0.mk hb
  clear hb
  go_enter Tryd.func62, Tryd.ntmps62
  go_wp2
  go_loopg [7, 21, 41] s.length (fun kq v7 v21 v41 wr => ∃ (s' : List UInt8) (l' : Int), 0 ≤ l' ∧ l' + s'.length ≤ 140737488351232 ∧ Aside0 (s'.length ≤ kq) ∧ Aside0 (sk false s l = sk false s' l') ∧ Aside0 (wr.heap[b]? = some (.cells #[.string (txt s'), .int .i64 l'] 143 (0, 0))) ∧ Aside0 (Ch (fun k => k = b) w wr))
  case atStart => exact ⟨s, l, h0, h1, ⟨Nat.le_refl _⟩, ⟨rfl⟩, HB, ⟨Ch.refl _ _⟩⟩
  case round =>
    clear HB h0 h1
    obtain ⟨s', l', h0, h1, HK, HD, HB, HC⟩ := hrel
    have hc0 : wr.cell? ⟨b, 0, none⟩ = some (.string (txt s')) := zcell HB.out 0 _ rfl
    have hc1 : wr.cell? ⟨b, 1, none⟩ = some (.int .i64 l') := zcell HB.out 1 _ rfl
    have hf0 := zfree HB.out 0
    have hf1 := zfree HB.out 1
    cases s' with
    | nil =>
      have hD : sk false s l = ([], l') := HD.out
      have HD2 := Aside0.mk hD
      clear hD HD
      go_wp2
      go_end0
      exact ⟨rfl, HC.out, by rw [HD2.out]; exact HB.out⟩
    | cons c t =>
      by_cases c10 : c = 10
      · subst c10
        have hD := Aside0.mk (HD.out.trans (sk_line t l'))
        clear HD
        have hlen : t.length + 1 ≤ gk := HK.out
        go_wp2
        go_roundg (gk - 1)
        case measure => omega
        case rel => exact ⟨t, l' + 1, by omega, by have := h1; simp at this; omega, ⟨by omega⟩, hD, ⟨zset (zset HB.out 1 (.int .i64 (l' + 1))) 0 (.string (txt t))⟩, ⟨(HC.out.set (p := ⟨b, 1, none⟩) (.inl rfl) _).set (p := ⟨b, 0, none⟩) (.inl rfl) _⟩⟩
      have b10 : ((c.toNat : Int) == 10) = false := beq_eq_false_iff_ne.mpr (fun h => c10 (UInt8.toNat_inj.1 (by simpa using Int.ofNat_inj.1 h)))
      by_cases c35 : c = 35
      · subst c35
        clear b10 c10
        obtain ⟨hD0, hpos⟩ := sk_hash (35 :: t) rfl l'
        have hD := Aside0.mk (HD.out.trans hD0)
        have hrl : (remL (35 :: t)).length ≤ (35 :: t).length := tw_len _ _
        obtain ⟨n, hn⟩ : ∃ n, n = (remL (35 :: t)).length := ⟨_, rfl⟩
        rw [← hn] at hD hpos hrl
        have HN := Aside0.mk hn
        have hrl2 : n ≤ t.length + 1 := by simpa using hrl
        have hKs : t.length + 1 ≤ gk := HK.out
        have hmax : (35 :: t).length ≤ 140737488351232 := by have := h1; simp at this; simp; omega
        have HM := Aside0.mk hmax
        clear HD hD0 hn hrl hmax
        go_wp2_with fail
        go_region_with (go_at_call 105; refine (remark.calls _ _ HM.out).mono ?_; rintro e w' ⟨rfl, rfl⟩; rw [← HN.out])
        all_goals
          go_wp2
          go_roundg (gk - n)
          case measure => omega
          case rel =>
            have hD2 := hD.out
            refine ⟨(35 :: t).drop n, l', by omega, by have := h1; simp at this; simp; omega, ⟨by simp; omega⟩, ⟨hD2⟩, ⟨?_⟩, ⟨?_⟩⟩
            · have e : (List.take (t.length + 1 - n) (List.drop n (35 :: t))) = List.drop n (35 :: t) := List.take_of_length_le (by simp)
              rw [e]
              exact zset HB.out 0 (.string (txt ((35 :: t).drop n)))
            · exact (HC.out.set (p := ⟨b, 0, none⟩) (.inl rfl) _).drew
      have b35 : ((c.toNat : Int) == 35) = false := beq_eq_false_iff_ne.mpr (fun h => c35 (UInt8.toNat_inj.1 (by simpa using Int.ofNat_inj.1 h)))
      obtain ⟨r, hr⟩ : ∃ r, r = Lib.indexByte [32, 9, 13] c := ⟨_, rfl⟩
      have hbi := blank_idx c
      rw [← hr] at hbi
      have HR := Aside0.mk hr
      clear hr
      by_cases hbl : blankB c = true
      · have hD := Aside0.mk (HD.out.trans (sk_blank c t l' c10 c35 hbl))
        rw [hbl] at hbi
        have hr0 : decide (r < 0) = false := hbi
        have hlen : t.length + 1 ≤ gk := HK.out
        clear HD hbi hbl c10 c35
        go_wp2_with (go_at_call 106; refine (Tryd.strings_IndexByte _ _ _).mono ?_; rintro e w' ⟨rfl, rfl⟩; rw [show (⟨#[32, 9, 13]⟩ : ByteArray).data.toList = [32, 9, 13] from rfl, show ((c.toNat : Nat) : Int).toNat.toUInt8 = c from by simp, ← HR.out])
        go_roundg (gk - 1)
        case measure => omega
        case rel => exact ⟨t, l', by omega, by have := h1; simp at this; omega, ⟨by omega⟩, hD, ⟨zset HB.out 0 (.string (txt t))⟩, ⟨HC.out.set (p := ⟨b, 0, none⟩) (.inl rfl) _⟩⟩
      · have hbl := Bool.eq_false_iff.mpr hbl
        have hD := Aside0.mk (HD.out.trans (sk_stop c t l' c10 c35 hbl))
        rw [hbl] at hbi
        have hr0 : decide (r < 0) = true := hbi
        clear HD hbi hbl c10 c35
        go_wp2_with (go_at_call 106; refine (Tryd.strings_IndexByte _ _ _).mono ?_; rintro e w' ⟨rfl, rfl⟩; rw [show (⟨#[32, 9, 13]⟩ : ByteArray).data.toList = [32, 9, 13] from rfl, show ((c.toNat : Nat) : Int).toNat.toUInt8 = c from by simp, ← HR.out])
        first | go_end0 | (refine bodyPost_ret (results_none rfl _ _ _) rfl ?_) | go_outline
        exact ⟨rfl, HC.out, by rw [hD.out]; exact HB.out⟩
attribute [local go_sem] txt_toList txt_size txt_get txt_extract
/-- No digit. -/
def digI (x : Int) : Bool := decide (x ≥ 48) && decide (x ≤ 57)
def letrI (x : Int) : Bool := decide (Go.bits .or .u8 x 32 ≥ 97) && decide (Go.bits .or .u8 x 32 ≤ 122)
def ndig (x : Int) : Bool := !digI x
theorem digI_f (x : Int) : lex_digit.f x = some (digI x) := by
  unfold lex_digit.f digI
  split
  · rename_i h; rw [decide_eq_true h]; rfl
  · rename_i h; rw [decide_eq_false h]; rfl
theorem letrI_f (x : Int) : lex_letter.f x = some (letrI x) := by
  unfold lex_letter.f letrI
  split
  · rename_i h; rw [decide_eq_true h]; rfl
  · rename_i h; rw [decide_eq_false h]; rfl
theorem digitB_I (c : UInt8) : digitB c = digI c.toNat := by unfold digitB; rw [digI_f]; rfl
theorem letterB_I (c : UInt8) : letterB c = letrI c.toNat := by unfold letterB; rw [letrI_f]; rfl
theorem digit.calls (x : Int) (w : World) : Calls Tryd.prog 148 #[.int .u8 x] w fun e w' => e = .returned (.bool (digI x)) ∧ w = w' := by
  by_cases h : 48 ≤ x
  · by_cases h2 : x ≤ 57
    · go_enter Tryd.func148, Tryd.ntmps148
      go_wp2
      go_ret
      exact ⟨by simp [digI, h, h2], rfl⟩
    · go_enter Tryd.func148, Tryd.ntmps148
      go_wp2
      go_ret
      exact ⟨by simp [digI]; omega, rfl⟩
  · go_enter Tryd.func148, Tryd.ntmps148
    go_wp2
    go_ret
    exact ⟨by simp [digI]; omega, rfl⟩
theorem letter.calls (x : Int) (w : World) : Calls Tryd.prog 134 #[.int .u8 x] w fun e w' => e = .returned (.bool (letrI x)) ∧ w = w' := by
  unfold letrI
  by_cases h : 97 ≤ Go.bits .or .u8 x 32
  · by_cases h2 : Go.bits .or .u8 x 32 ≤ 122
    · go_enter Tryd.func134, Tryd.ntmps134
      go_wp2
      go_ret
      exact ⟨by simp [h, h2], rfl⟩
    · go_enter Tryd.func134, Tryd.ntmps134
      go_wp2
      go_ret
      exact ⟨by simp [h, h2], rfl⟩
  · go_enter Tryd.func134, Tryd.ntmps134
    go_wp2
    go_ret
    have h2 : decide (97 ≤ Go.bits .or .u8 x 32) = false := decide_eq_false (by omega)
    exact ⟨by simp [h2], rfl⟩
theorem ndig.calls (x : Int) (w : World) : Calls Tryd.prog 150 #[.int .u8 x] w fun e w' => e = .returned (.bool (ndig x)) ∧ w = w' := by
  unfold ndig
  go_enter Tryd.func150, Tryd.ntmps150
  go_wp2_with (go_at_call 148; refine (digit.calls _ _).mono ?_; rintro e w' ⟨rfl, rfl⟩)
  go_ret
  exact ⟨rfl, rfl⟩
set_option maxHeartbeats 400000 in
theorem anyNdig_idx.calls (A : Option Addr) (c : Nat) (l : List Int) (w : World) (hr : Kd.C (Kd.int .u8) w A l.length l) (hc : l.length ≤ c) :
    Calls Tryd.prog 154 #[.slice A l.length c, .func (.func 150) #[] #[]] w fun e w' => (∃ i : Int, e = .returned (.int .i64 i) ∧ decide (0 ≤ i) = l.any ndig) ∧ w = w' := by
  have HR := Aside0.mk hr
  have hlen : l.length ≤ 9223372036854775807 := hr.2.1
  clear hr
  go_enter Tryd.func154, Tryd.ntmps154
  go_wp2
  go_loop [5, 8] (fun v5 v8 => ∃ i : Int, 0 ≤ i ∧ i ≤ l.length ∧ v8 = .int .i64 i ∧ Aside0 (∀ j, j < i.toNat → ndig (l.getD j 0) = false)) (fun _ v => l.length - (intOf v).toNat)
  case atStart => exact ⟨0, by omega, by omega, rfl, ⟨fun j hj => by omega⟩⟩
  case round =>
    obtain ⟨i, h0, hi, rfl, HN⟩ := hrel
    by_cases hlt : i < l.length
    · obtain ⟨ad, e1, hx⟩ := Kd.at_int HR.out i h0 hlt
      cases e1
      have ho : ndig (l.getD i.toNat 0) = true ∨ ndig (l.getD i.toNat 0) = false := by cases ndig (l.getD i.toNat 0) <;> simp
      rcases ho with ho | ho
      · have HO := Lib.hid ho
        clear ho
        go_wp2_with (first | (go_at_call 150; refine (ndig.calls _ _).mono ?_; rintro e w' ⟨rfl, rfl⟩; rw [show rd l i = l.getD i.toNat 0 from rfl, HO.out]))
        go_ret
        exact ⟨⟨i, rfl, by rw [decide_eq_true h0]; symm; rw [List.any_eq_true]; exact ⟨l.getD i.toNat 0, by rw [List.getD_eq_getElem?_getD, List.getElem?_eq_getElem (by omega)]; exact List.getElem_mem _, HO.out⟩⟩, rfl⟩
      · have HO := Lib.hid ho
        clear ho
        go_wp2_with (first | (go_at_call 150; refine (ndig.calls _ _).mono ?_; rintro e w' ⟨rfl, rfl⟩; rw [show rd l i = l.getD i.toNat 0 from rfl, HO.out]))
        go_round
        case rel => exact ⟨i + 1, by omega, by omega, rfl, ⟨fun j hj => by
          by_cases h : j < i.toNat
          · exact HN.out j h
          · obtain rfl : j = i.toNat := by omega
            exact HO.out⟩⟩
        case measure => simp [intOf]; omega
    · go_wp2
      go_ret
      refine ⟨⟨-1, rfl, ?_⟩, rfl⟩
      symm
      rw [show decide ((0 : Int) ≤ -1) = false from rfl, List.any_eq_false]
      intro x hx
      obtain ⟨j, hj, rfl⟩ := List.getElem_of_mem hx
      have := HN.out j (by omega)
      rw [List.getD_eq_getElem?_getD, List.getElem?_eq_getElem hj] at this
      simpa using this
theorem anyNdig.calls (A : Option Addr) (c : Nat) (l : List Int) (w : World) (hr : Kd.C (Kd.int .u8) w A l.length l) (hc : l.length ≤ c) :
    Calls Tryd.prog 149 #[.slice A l.length c, .func (.func 150) #[] #[]] w fun e w' => e = .returned (.bool (l.any ndig)) ∧ w = w' := by
  go_enter Tryd.func149, Tryd.ntmps149
  go_wp2_with (first | (go_at_call 154; refine (anyNdig_idx.calls _ _ _ _ hr hc).mono ?_; rintro e w' ⟨⟨i, rfl, hi⟩, rfl⟩; have HI := Lib.hid hi; clear hi))
  go_ret
  exact ⟨by rw [← HI.out]; rfl, rfl⟩
theorem any_ndig (s : List UInt8) : (bytesOf (txt s)).any ndig = !(s.all digitB) := by
  unfold bytesOf
  rw [txt_list]
  induction s with
  | nil => rfl
  | cons c t ih => rw [List.map_cons, List.any_cons, ih, List.all_cons, digitB_I]; unfold ndig; cases digI (c.toNat : Int) <;> simp
theorem digits.calls (s : List UInt8) (w : World) (hs : s.length ≤ 140737488351232) :
    Calls Tryd.prog 135 #[.string (txt s)] w fun e w' => e = .returned (.bool (s.all digitB)) ∧ Below w.heap.size w w' := by
  obtain ⟨l, hl⟩ : ∃ l, l = bytesOf (txt s) := ⟨_, rfl⟩
  have hn : (txt s).size = l.length := by rw [hl, bytesOf_length]
  have kb : ∀ W, (convert 9 114 (.string (txt s))).run Tryd.prog W = .ok (.slice (some ⟨W.heap.size, 0, none⟩) l.length (grownCap W l.length 0 5)) (Lib.bytesWorld W 5 (txt s)) := fun W => by
    have := print_bytes (P := Tryd.prog) 9 114 5 Tryd.underlying9 Tryd.underlying114 Tryd.underlying5 (txt s) W
    rw [hn] at this; exact this
  have hr : ∀ W, Kd.C (Kd.int .u8) (Lib.bytesWorld W 5 (txt s)) (some ⟨W.heap.size, 0, none⟩) l.length l := fun W => by
    have := bytes_reads W 5 (txt s) (by rw [txt_size]; omega)
    rw [hn, ← hl] at this
    exact Kd.C_of_reads (d := (0 : Int)) (h1 := fun _ => rfl) this
  have ha : l.any ndig = !(s.all digitB) := by rw [hl]; exact any_ndig s
  have HR := Aside0.mk hr
  have HA := Aside0.mk ha
  clear hr ha hn hl
  go_enter Tryd.func135, Tryd.ntmps135
  go_wp2_with (go_at_call 149; refine (anyNdig.calls _ _ l _ (HR.out _) (grownCap_ge _ _ _ _)).mono ?_; rintro e w' ⟨rfl, rfl⟩; rw [HA.out])
  go_ret
  exact ⟨by simp, bytes_below (Below.refl _ _) (Nat.le_refl _) 5 _⟩
/-- A run's kind: of at least one letter. -/
theorem kind.calls (c : UInt8) (t : List UInt8) (w : World) (hs : (c :: t).length ≤ 140737488351232) :
    Calls Tryd.prog 108 #[.string (txt (c :: t))] w fun e w' => e = .returned (.tuple #[.int .i64 (kindL (c :: t)).1, .int .i64 (kindL (c :: t)).2]) ∧ Below w.heap.size w w' := by
  have hs2 : t.length + 1 ≤ 140737488351232 := by simpa using hs
  by_cases hl : letrI c.toNat = true
  · have hlb : letterB c = true := by rw [letterB_I]; exact hl
    have HL := Lib.hid hl
    by_cases h32 : t.length + 1 > 32
    · have hk : kindL (c :: t) = (0, 31) := by unfold kindL; rw [show (c :: t).headD 0 = c from rfl, if_pos ⟨hlb, by simpa using h32⟩]
      rw [hk]
      clear hk hlb hl
      go_enter Tryd.func108, Tryd.ntmps108
      go_wp2_with (go_at_call 134; refine (letter.calls _ _).mono ?_; rintro e w' ⟨rfl, rfl⟩; rw [HL.out])
      go_ret2
      exact ⟨rfl, Below.refl _ _⟩
    · have hk : kindL (c :: t) = (1, 0) := by unfold kindL; rw [show (c :: t).headD 0 = c from rfl, if_neg (by rintro ⟨_, h⟩; simp at h; omega), if_pos hlb]
      rw [hk]
      clear hk hlb hl
      go_enter Tryd.func108, Tryd.ntmps108
      go_wp2_with (go_at_call 134; refine (letter.calls _ _).mono ?_; rintro e w' ⟨rfl, rfl⟩; rw [HL.out])
      go_ret2
      exact ⟨rfl, Below.refl _ _⟩
  · have hl2 := Bool.eq_false_iff.mpr hl
    have hlb : ¬ letterB c = true := by rw [letterB_I]; exact hl
    have HL := Lib.hid hl2
    have hk : kindL (c :: t) = if c = 95 then (0, 32) else if ((c :: t).all digitB) = false ∨ (c :: t).length > 9 ∨ (c = 48 ∧ (c :: t).length > 1) then (0, 4) else (2, 0) := by
      unfold kindL
      rw [show (c :: t).headD 0 = c from rfl, if_neg (fun h => hlb h.1), if_neg hlb]
    clear hl hl2 hlb
    by_cases h95 : c = 95
    · rw [hk, if_pos h95]
      have b95 : ((c.toNat : Int) == 95) = true := by rw [h95]; rfl
      clear hk h95
      go_enter Tryd.func108, Tryd.ntmps108
      go_wp2_with (go_at_call 134; refine (letter.calls _ _).mono ?_; rintro e w' ⟨rfl, rfl⟩; rw [HL.out])
      go_ret2
      exact ⟨rfl, Below.refl _ _⟩
    have b95 : ((c.toNat : Int) == 95) = false := beq_eq_false_iff_ne.mpr (fun h => h95 (UInt8.toNat_inj.1 (by simpa using Int.ofNat_inj.1 h)))
    rw [hk, if_neg h95]
    clear hk h95
    obtain ⟨d, hd⟩ : ∃ d, d = (c :: t).all digitB := ⟨_, rfl⟩
    rw [← hd]
    have HD := Lib.hid hd
    clear hd
    have hlen : (c :: t).length = t.length + 1 := rfl
    rw [hlen]
    cases d with
    | false =>
      rw [if_pos (.inl rfl)]
      clear hlen
      go_enter Tryd.func108, Tryd.ntmps108
      go_wp2_with (first | (go_at_call 134; refine (letter.calls _ _).mono ?_; rintro e w' ⟨rfl, rfl⟩; rw [HL.out]) | (go_at_call 135; refine (digits.calls _ _ hs).mono ?_; rintro e w1 ⟨rfl, hB⟩; rw [← HD.out]))
      go_ret2
      exact ⟨rfl, hB⟩
    | true =>
      clear hlen
      by_cases h9 : t.length + 1 > 9
      · rw [if_pos (.inr (.inl h9))]
        go_enter Tryd.func108, Tryd.ntmps108
        go_wp2_with (first | (go_at_call 134; refine (letter.calls _ _).mono ?_; rintro e w' ⟨rfl, rfl⟩; rw [HL.out]) | (go_at_call 135; refine (digits.calls _ _ hs).mono ?_; rintro e w1 ⟨rfl, hB⟩; rw [← HD.out]))
        go_ret2
        exact ⟨rfl, hB⟩
      by_cases h48 : c = 48
      · by_cases h1 : t.length + 1 > 1
        · rw [if_pos (.inr (.inr ⟨h48, h1⟩))]
          have b48 : ((c.toNat : Int) == 48) = true := by rw [h48]; rfl
          clear h48
          go_enter Tryd.func108, Tryd.ntmps108
          go_wp2_with (first | (go_at_call 134; refine (letter.calls _ _).mono ?_; rintro e w' ⟨rfl, rfl⟩; rw [HL.out]) | (go_at_call 135; refine (digits.calls _ _ hs).mono ?_; rintro e w1 ⟨rfl, hB⟩; rw [← HD.out]))
          go_ret2
          exact ⟨rfl, hB⟩
        · rw [if_neg (by rintro (h | h | h); · cases h
                         · exact h9 h
                         · exact h1 h.2)]
          have b48 : ((c.toNat : Int) == 48) = true := by rw [h48]; rfl
          clear h48
          go_enter Tryd.func108, Tryd.ntmps108
          go_wp2_with (first | (go_at_call 134; refine (letter.calls _ _).mono ?_; rintro e w' ⟨rfl, rfl⟩; rw [HL.out]) | (go_at_call 135; refine (digits.calls _ _ hs).mono ?_; rintro e w1 ⟨rfl, hB⟩; rw [← HD.out]))
          go_ret2
          exact ⟨rfl, hB⟩
      · have b48 : ((c.toNat : Int) == 48) = false := beq_eq_false_iff_ne.mpr (fun h => h48 (UInt8.toNat_inj.1 (by simpa using Int.ofNat_inj.1 h)))
        rw [if_neg (by rintro (h | h | h); · cases h
                       · exact h9 h
                       · exact h48 h.1)]
        clear h48
        go_enter Tryd.func108, Tryd.ntmps108
        go_wp2_with (first | (go_at_call 134; refine (letter.calls _ _).mono ?_; rintro e w' ⟨rfl, rfl⟩; rw [HL.out]) | (go_at_call 135; refine (digits.calls _ _ hs).mono ?_; rintro e w1 ⟨rfl, hB⟩; rw [← HD.out]))
        go_ret2
        exact ⟨rfl, hB⟩
attribute [local go_sem] txt_toList txt_size txt_get txt_extract
theorem partB_I (c : UInt8) : partB c = (digI c.toNat || letrI c.toNat || ((c.toNat : Int) == 95)) := by
  unfold partB lex_part.f
  rw [digI_f, Option.bind_some]
  cases h : digI c.toNat
  · rw [if_neg (by simp), letrI_f, Option.bind_some]
    cases h2 : letrI c.toNat
    · rw [if_neg (by simp)]; rfl
    · rw [if_pos rfl]; rfl
  · rw [if_pos rfl]; rfl
theorem part.calls (c : UInt8) (w : World) : Calls Tryd.prog 133 #[.int .u8 (c.toNat : Int)] w fun e w' => e = .returned (.bool (partB c)) ∧ w = w' := by
  rw [partB_I]
  generalize (c.toNat : Int) = x
  cases h : digI x with
  | true =>
    have H := Lib.hid h
    clear h
    go_enter Tryd.func133, Tryd.ntmps133
    go_wp2_with (first | (go_at_call 148; refine (digit.calls _ _).mono ?_; rintro e w' ⟨rfl, rfl⟩; rw [H.out]))
    go_ret
    exact ⟨rfl, rfl⟩
  | false =>
    have H := Lib.hid h
    clear h
    cases h2 : letrI x with
    | true =>
      have H2 := Lib.hid h2
      clear h2
      go_enter Tryd.func133, Tryd.ntmps133
      go_wp2_with (first | (go_at_call 148; refine (digit.calls _ _).mono ?_; rintro e w' ⟨rfl, rfl⟩; rw [H.out]) | (go_at_call 134; refine (letter.calls _ _).mono ?_; rintro e w' ⟨rfl, rfl⟩; rw [H2.out]))
      go_ret
      exact ⟨rfl, rfl⟩
    | false =>
      have H2 := Lib.hid h2
      clear h2
      go_enter Tryd.func133, Tryd.ntmps133
      go_wp2_with (first | (go_at_call 148; refine (digit.calls _ _).mono ?_; rintro e w' ⟨rfl, rfl⟩; rw [H.out]) | (go_at_call 134; refine (letter.calls _ _).mono ?_; rintro e w' ⟨rfl, rfl⟩; rw [H2.out]))
      go_ret
      exact ⟨rfl, rfl⟩
theorem run_stop : ∀ (s : List UInt8) (i : Nat) (h : i < s.length), (∀ j (hj : j < i), partB (s[j]'(by omega)) = true) → partB s[i] = false → runL s = s.take i
  | c :: t, 0, _, _, h1 => by unfold runL; rw [List.takeWhile_cons, if_neg (by simpa using h1)]; rfl
  | c :: t, i + 1, h, h0, h1 => by
    have e := run_stop t i (by simpa using h) (fun j hj => by have := h0 (j + 1) (by omega); simpa using this) (by simpa using h1)
    unfold runL at e ⊢
    have h2 : partB c = true := by have := h0 0 (by omega); simpa using this
    rw [List.takeWhile_cons, if_pos h2, List.take_succ_cons, e]
set_option maxHeartbeats 400000 in
theorem run.calls (s : List UInt8) (w : World) (hs : s.length ≤ 140737488351232) :
    Calls Tryd.prog 107 #[.string (txt s)] w fun e w' => e = .returned (.string (txt (runL s))) ∧ w = w' := by
  go_enter Tryd.func107, Tryd.ntmps107
  go_wp2
  go_loop [3, 6] (fun v3 v6 => ∃ i : Nat, i ≤ s.length ∧ v6 = .int .i64 i ∧ Aside0 (∀ j (hj : j < i) (h : j < s.length), partB s[j] = true)) (fun _ v => s.length - (intOf v).toNat)
  case atStart => exact ⟨0, by omega, rfl, ⟨fun j hj => by omega⟩⟩
  case round =>
    obtain ⟨i, hi, rfl, HN⟩ := hrel
    by_cases hlt : i < s.length
    · cases hp : partB s[i] with
      | true =>
        have HP := Lib.hid hp
        clear hp
        go_wp2_with (first | (go_at_call 133; refine (part.calls _ _).mono ?_; rintro e w' ⟨rfl, rfl⟩; rw [HP.out]))
        go_round
        case rel => exact ⟨i + 1, by omega, by go_num, ⟨fun j hj h => by
          by_cases h2 : j < i
          · exact HN.out j h2 h
          · obtain rfl : j = i := by omega
            exact HP.out⟩⟩
        case measure => simp [intOf]; omega
      | false =>
        have hr := run_stop s i hlt (fun j hj => HN.out j hj (by omega)) hp
        have HP := Lib.hid hp
        have HR := Lib.hid hr
        clear hp hr
        go_wp2_with (first | (go_at_call 133; refine (part.calls _ _).mono ?_; rintro e w' ⟨rfl, rfl⟩; rw [HP.out]))
        go_ret
        exact ⟨by rw [HR.out]; simp, rfl⟩
    · obtain rfl : i = s.length := by omega
      have hr : runL s = s := tw_all _ _ (fun x hx => by obtain ⟨j, hj, rfl⟩ := List.getElem_of_mem hx; exact HN.out j hj hj)
      have HR := Lib.hid hr
      clear hr
      go_wp2
      go_ret
      exact ⟨by rw [HR.out]; rfl, rfl⟩
attribute [local go_sem] txt_toList txt_size txt_get txt_extract
theorem sign_idx (c : UInt8) : decide (0 ≤ Lib.indexByte [123, 125, 40, 41, 91, 93, 59, 58, 44, 61, 63] c) = signB c := by
  rw [indexByte_spec]
  unfold signB signs
  by_cases h : ([123, 125, 40, 41, 91, 93, 59, 58, 44, 61, 63] : List UInt8).contains c = true
  · rw [if_pos h, h, decide_eq_true (by omega)]
  · rw [if_neg h, Bool.eq_false_iff.mpr h]; rfl
set_option maxHeartbeats 1000000 in
theorem next.calls (b : Nat) (c : UInt8) (t : List UInt8) (l : Int) (w : World) (hb : w.heap[b]? = some (.cells #[.string (txt (c :: t)), .int .i64 l] 143 (0, 0))) (hs : t.length + 1 ≤ 140737488351232) :
    Calls Tryd.prog 63 #[.pointer (some ⟨b, 0, none⟩)] w fun e w' => e = .returned (.tuple #[.agg #[.int .i64 (nextL (c :: t) l).1.f0, .string (nextL (c :: t) l).1.f1, .int .i64 (nextL (c :: t) l).1.f2], .int .i64 (nextL (c :: t) l).2.1]) ∧ Ch (fun k => k = b) w w' ∧ w'.heap[b]? = some (.cells #[.string (txt (nextL (c :: t) l).2.2), .int .i64 l] 143 (0, 0)) := by
  have hc0 : w.cell? ⟨b, 0, none⟩ = some (.string (txt (c :: t))) := zcell hb 0 _ rfl
  have hc1 : w.cell? ⟨b, 1, none⟩ = some (.int .i64 l) := zcell hb 1 _ rfl
  have hf0 := zfree hb 0
  have hblt := lt_of_block hb
  have HB := Aside0.mk hb
  clear hb
  obtain ⟨r, hr⟩ : ∃ r, r = Lib.indexByte [123, 125, 40, 41, 91, 93, 59, 58, 44, 61, 63] c := ⟨_, rfl⟩
  have hsi := sign_idx c
  rw [← hr] at hsi
  have HR := Aside0.mk hr
  clear hr
  cases hsg : signB c with
  | true =>
    have hn : nextL (c :: t) l = (⟨3, txt [c], l⟩, 0, t) := by unfold nextL; rw [show (c :: t).headD 0 = c from rfl, if_pos hsg]; rfl
    rw [hn]
    rw [hsg] at hsi
    have hr0 : 0 ≤ r := of_decide_eq_true hsi
    clear hsg hn hsi
    go_enter Tryd.func63, Tryd.ntmps63
    go_wp2_with (go_at_call 106; refine (Tryd.strings_IndexByte _ _ _).mono ?_; rintro e w' ⟨rfl, rfl⟩; rw [show (⟨#[123, 125, 40, 41, 91, 93, 59, 58, 44, 61, 63]⟩ : ByteArray).data.toList = [123, 125, 40, 41, 91, 93, 59, 58, 44, 61, 63] from rfl, show ((c.toNat : Nat) : Int).toNat.toUInt8 = c from by simp, ← HR.out])
    go_region
    all_goals go_wp2
    refine bodyPost_ret (v := .tuple #[.agg #[.int .i64 3, .string (txt [c]), .int .i64 l], .int .i64 0]) ?_ rfl ⟨rfl, ?_, ?_⟩
    · simp [results, Tryd.results63, go_sem]
    · exact ((((Ch.refl (fun k => k = b) w).set (p := ⟨b, 0, none⟩) (.inl rfl) _).alloc _).alloc _).drew
    · exact ((((Ch.refl (fun _ => False) _).alloc _).alloc _).drew).heap (zset HB.out 0 (.string (txt t))) (fun h => h)
  | false =>
    rw [hsg] at hsi
    have hr0 : decide (0 ≤ r) = false := hsi
    have hr1 : r < 0 := by have := of_decide_eq_false hsi; omega
    by_cases hp : partB c = true
    · have hrl : runL (c :: t) = c :: runL t := by unfold runL; rw [List.takeWhile_cons, if_pos hp]
      have hn : nextL (c :: t) l = (⟨(kindL (c :: runL t)).1, txt (c :: runL t), l⟩, (kindL (c :: runL t)).2, t.drop (runL t).length) := by
        unfold nextL
        rw [show (c :: t).headD 0 = c from rfl, if_neg (by rw [hsg]; decide), if_neg (by rw [hrl]; simp), hrl]
        rfl
      rw [hn]
      have hrlen : (runL t).length ≤ t.length := tw_len _ _
      have HRL := Lib.hid hrl
      obtain ⟨k1, hk1⟩ : ∃ x, x = (kindL (c :: runL t)).1 := ⟨_, rfl⟩
      obtain ⟨k2, hk2⟩ : ∃ x, x = (kindL (c :: runL t)).2 := ⟨_, rfl⟩
      rw [← hk1, ← hk2]
      have HK1 := Lib.hid hk1
      have HK2 := Lib.hid hk2
      have HKC := Lib.hid (fun W => kind.calls c (runL t) W (by simp; omega))
      obtain ⟨rr, hrr⟩ : ∃ rr, rr = runL t := ⟨_, rfl⟩
      rw [← hrr] at HRL HK1 HK2 HKC hrlen ⊢
      clear hsg hn hsi hrl hk1 hk2 hrr hp
      have hs' : (c :: t).length ≤ 140737488351232 := hs
      have HS := Lib.hid hs'
      clear hs'
      go_enter Tryd.func63, Tryd.ntmps63
      go_wp2_with (first | (go_at_call 106; refine (Tryd.strings_IndexByte _ _ _).mono ?_; rintro e w' ⟨rfl, rfl⟩; rw [show (⟨#[123, 125, 40, 41, 91, 93, 59, 58, 44, 61, 63]⟩ : ByteArray).data.toList = [123, 125, 40, 41, 91, 93, 59, 58, 44, 61, 63] from rfl, show ((c.toNat : Nat) : Int).toNat.toUInt8 = c from by simp, ← HR.out]) | (go_at_call 107; refine (run.calls _ _ HS).mono ?_; rintro e w' ⟨rfl, rfl⟩; rw [HRL]))
      refine (HKC _).mono ?_
      rintro e w1 ⟨rfl, hB⟩
      rw [← HK1.out, ← HK2.out]
      have HC := Aside0.mk (Ch.of_below hB (fun _ => False))
      have HBw := Aside0.mk (HC.out.heap (((Ch.refl (fun _ => False) w).alloc _).heap HB.out (fun h => h)) (fun h => h))
      have HRw := Aside0.mk (HC.out.heap (heap_alloc_new w _) (fun h => h))
      have hd0 : w1.cell? ⟨b, 0, none⟩ = some (.string (txt (c :: t))) := zcell HBw.out 0 _ rfl
      have hd1 : w1.cell? ⟨b, 1, none⟩ = some (.int .i64 l) := zcell HBw.out 1 _ rfl
      have hg0 := zfree HBw.out 0
      have he0 : w1.cell? ⟨w.heap.size, 0, none⟩ = some (.int .i64 0) := zcell HRw.out 0 _ rfl
      have he1 : w1.cell? ⟨w.heap.size, 1, none⟩ = some (.string ⟨#[]⟩) := zcell HRw.out 1 _ rfl
      have he2 : w1.cell? ⟨w.heap.size, 2, none⟩ = some (.int .i64 0) := zcell HRw.out 2 _ rfl
      have hr0' := zfree HRw.out 0
      have hr1' := zfree HRw.out 1
      have hr2' := zfree HRw.out 2
      have hne : ¬ (b = w.heap.size) := by omega
      have hne2 : ¬ (w.heap.size = b) := by omega
      clear hB hc0 hc1 hf0
      go_wp2
      rw [show (List.take (t.length - rr.length) (List.drop rr.length t)) = t.drop rr.length from List.take_of_length_le (by simp)]
      have hW0 := zset HBw.out 0 (.string (txt (t.drop rr.length)))
      have hR0 := ((Ch.refl (fun k => k = b) w1).set (p := ⟨b, 0, none⟩) (.inl rfl) (.string (txt (t.drop rr.length)))).heap HRw.out hne2
      have hR1 := zset (zset (zset hR0 0 (.int .i64 k1)) 1 (.string (txt (c :: rr)))) 2 (.int .i64 l)
      have x0 := zcell hR1 0 (.int .i64 k1) rfl
      have x1 := zcell hR1 1 (.string (txt (c :: rr))) rfl
      have x2 := zcell hR1 2 (.int .i64 l) rfl
      have hch := Aside0.mk ((((((Ch.refl (fun k => k = b ∨ k = w.heap.size) w1).set (p := ⟨b, 0, none⟩) (.inl (.inl rfl)) (.string (txt (t.drop rr.length)))).set (p := ⟨w.heap.size, 0, none⟩) (.inl (.inr rfl)) (.int .i64 k1)).set (p := ⟨w.heap.size, 1, none⟩) (.inl (.inr rfl)) (.string (txt (c :: rr)))).set (p := ⟨w.heap.size, 2, none⟩) (.inl (.inr rfl)) (.int .i64 l)))
      have hbb := Aside0.mk ((((Ch.refl (fun k => k = w.heap.size) _).set (p := ⟨w.heap.size, 0, none⟩) (.inl rfl) (.int .i64 k1)).set (p := ⟨w.heap.size, 1, none⟩) (.inl rfl) (.string (txt (c :: rr)))).set (p := ⟨w.heap.size, 2, none⟩) (.inl rfl) (.int .i64 l) |>.heap hW0 hne)
      generalize ((((w1.setCell { block := b, off := 0 } (Value.string (txt (List.drop rr.length t)))).setCell { block := w.heap.size, off := 0 } (Value.int IntKind.i64 k1)).setCell { block := w.heap.size, off := 1 } (Value.string (txt (c :: rr)))).setCell { block := w.heap.size, off := 2 } (Value.int IntKind.i64 l)) = W at x0 x1 x2 hch hbb ⊢
      refine bodyPost_ret (v := .tuple #[.agg #[.int .i64 k1, .string (txt (c :: rr)), .int .i64 l], .int .i64 k2]) ?_ rfl ⟨rfl, ?_, ?_⟩
      · simp [results, Tryd.results63, go_sem, x0, x1, x2]
      · exact (((Ch.refl (fun k => k = b) w).alloc _).trans HC.out (fun _ h => h.elim)).trans hch.out (fun k hk => hk.elim .inl (fun h => .inr (by omega)))
      · exact hbb.out
    · have hp := Bool.eq_false_iff.mpr hp
      have hrl : runL (c :: t) = [] := by unfold runL; rw [List.takeWhile_cons, if_neg (by rw [hp]; decide)]
      have hn : nextL (c :: t) l = (z98, 32, c :: t) := by
        unfold nextL
        rw [show (c :: t).headD 0 = c from rfl, if_neg (by rw [hsg]; decide), if_pos hrl]
      rw [hn]
      have HRL := Lib.hid hrl
      clear hsg hn hsi hrl hp
      have hs' : (c :: t).length ≤ 140737488351232 := hs
      have HS := Lib.hid hs'
      clear hs'
      go_enter Tryd.func63, Tryd.ntmps63
      go_wp2_with (first | (go_at_call 106; refine (Tryd.strings_IndexByte _ _ _).mono ?_; rintro e w' ⟨rfl, rfl⟩; rw [show (⟨#[123, 125, 40, 41, 91, 93, 59, 58, 44, 61, 63]⟩ : ByteArray).data.toList = [123, 125, 40, 41, 91, 93, 59, 58, 44, 61, 63] from rfl, show ((c.toNat : Nat) : Int).toNat.toUInt8 = c from by simp, ← HR.out]) | (go_at_call 107; refine (run.calls _ _ HS).mono ?_; rintro e w' ⟨rfl, rfl⟩; rw [HRL]))
      refine bodyPost_ret (v := .tuple #[.agg #[.int .i64 0, .string ⟨#[]⟩, .int .i64 0], .int .i64 32]) ?_ rfl ⟨rfl, ?_, ?_⟩
      · simp [results, Tryd.results63, go_sem]
      · exact (Ch.refl (fun k => k = b) w).alloc _
      · exact ((Ch.refl (fun _ => False) w).alloc _).heap HB.out (fun h => h)
attribute [local go_sem] txt_toList txt_size txt_get txt_extract
/-- Behind the skipping. -/
def tokStep (n : Nat) (s : List UInt8) (l : Int) (out : List S98) : List S98 × Int × Int :=
  if s = [] then (out, 0, 0) else if (nextL s l).2.1 = 0 then toksL n (nextL s l).2.2 l (out ++ [(nextL s l).1]) else ([], l, (nextL s l).2.1)
theorem toksL_step (n : Nat) (s : List UInt8) (l : Int) (out : List S98) : toksL (n + 1) s l out = tokStep n (sk false s l).1 (sk false s l).2 out := rfl
theorem sk_len : ∀ (s : List UInt8) (b : Bool) (l : Int), (sk b s l).1.length ≤ s.length
  | [], b, l => by cases b <;> simp [sk]
  | c :: t, b, l => by
    have h0 := sk_len t false
    have h1 := sk_len t true
    cases b
    · unfold sk
      split
      · have := h0 (l + 1); simp; omega
      · split
        · have := h1 l; simp; omega
        · split
          · have := h0 l; simp; omega
          · simp
    · unfold sk
      split
      · have := h0 (l + 1); simp; omega
      · have := h1 l; simp; omega
theorem sk_bd : ∀ (s : List UInt8) (b : Bool) (l : Int), l ≤ (sk b s l).2 ∧ (sk b s l).2 + (sk b s l).1.length ≤ l + s.length
  | [], b, l => by cases b <;> simp [sk]
  | c :: t, b, l => by
    have h0 := sk_bd t false
    have h1 := sk_bd t true
    cases b
    · unfold sk
      split
      · have := h0 (l + 1); simp; omega
      · split
        · have := h1 l; simp; omega
        · split
          · have := h0 l; simp; omega
          · simp
    · unfold sk
      split
      · have := h0 (l + 1); simp; omega
      · have := h1 l; simp; omega
theorem next_len (c : UInt8) (t : List UInt8) (l : Int) (h : (nextL (c :: t) l).2.1 = 0) : (nextL (c :: t) l).2.2.length ≤ t.length := by
  unfold nextL at h ⊢
  rw [show (c :: t).headD 0 = c from rfl] at h ⊢
  split
  · simp
  · rename_i hs
    rw [if_neg hs] at h
    split
    · rename_i hr
      rw [if_pos hr] at h
      exact absurd (show (32 : Int) = 0 from h) (by decide)
    · rename_i hr
      have : 0 < (runL (c :: t)).length := List.length_pos_iff.2 hr
      simp only [List.length_drop, List.length_cons]
      omega
set_option maxRecDepth 100000 in
set_option maxHeartbeats 2000000 in
theorem lex_Tokens.calls (a0 : ByteArray) (r1 : List S98) (r2 : Int) (r3 : Int) (w : World) (h : lex_Tokens.f a0 = some (r1, r2, r3)) :
    Calls Tryd.prog 36 #[.string a0] w fun e w' => ∃ v0_ : Value, e = .returned (.tuple #[v0_, .int .i64 r2, .int .i64 r3]) ∧ Kd.R k98 98 w' w.heap.size (fun _ => True) v0_ r1 ∧ Below w.heap.size w w' := by
  unfold lex_Tokens.f at h
  by_cases c1 : (a0.size : Int) > 65536
  · rw [if_pos c1] at h
    simp only [Option.some.injEq, Prod.mk.injEq] at h
    obtain ⟨rfl, rfl, rfl⟩ := h
    go_enter Tryd.func36, Tryd.ntmps36
    go_wp2
    go_ret3
    exact ⟨_, rfl, Kd.R_nil _ _ _ _ _, Below.refl _ _⟩
  rw [if_neg c1] at h
  obtain ⟨s0, rfl⟩ : ∃ s0, a0 = txt s0 := ⟨a0.data.toList, (txt_data a0).symm⟩
  rw [txt_list, txt_size] at h
  rw [txt_size] at c1
  have hs0 : s0.length ≤ 65536 := by omega
  have H := Lib.hid (Option.some.inj h)
  clear h
  go_enter Tryd.func36, Tryd.ntmps36
  go_wp2_with fail
  refine (skip.calls _ s0 1 _ (heap_alloc_new _ _) (by omega) (by omega)).mono ?_
  rintro e w1 ⟨rfl, hC, hS⟩
  have HS := Aside0.mk hS
  have HB := Aside0.mk (below_ch (below_alloc (Below.refl _ w) _) hC (by simp) (fun k h => by omega))
  have hw1 : w.heap.size < w1.heap.size := lt_of_block hS
  have HW1 := Aside0.mk hw1
  have HL0 := Aside0.mk (sk_len s0 false 1)
  have HL1 := Aside0.mk (sk_bd s0 false 1)
  clear hC hS hw1
  have HD : Aside0 ((r1, r2, r3) = tokStep s0.length (sk false s0 1).1 (sk false s0 1).2 []) := ⟨by rw [← toksL_step]; exact H.out.symm⟩
  clear H
  go_wp2
  go_loopg [5, 7, 8] (s0.length + 1) (fun kq v5 v7 v8 wr => ∃ (s : List UInt8) (l : Int) (out : List S98) (n : Nat), 1 ≤ l ∧ l + s.length ≤ 65537 ∧ Aside0 (s.length ≤ n) ∧ Aside0 (n + 1 = kq) ∧ Aside0 ((out.length : Int) + s.length ≤ 65536) ∧ Aside0 ((r1, r2, r3) = tokStep n s l out) ∧ Aside0 (wr.heap[w.heap.size]? = some (.cells #[.string (txt s), .int .i64 l] 143 (0, 0))) ∧ Aside0 (Kd.R k98 98 wr w.heap.size (fun k => k ≠ w.heap.size) v5 out) ∧ Aside0 (Below w.heap.size w wr))
  case atStart => exact ⟨_, _, [], s0.length, by have := HL1.out; omega, by have := HL1.out; omega, HL0, ⟨rfl⟩, ⟨by have := HL0.out; simp; omega⟩, HD, HS, ⟨Kd.R_nil _ _ _ _ _⟩, HB⟩
  case round =>
    clear HS HB HW1 HL0 HL1 HD
    obtain ⟨s, l, out, n, hl, hls, HN, HQ, HO, HD, HS, HR, HB⟩ := hrel
    have hc0 : wr.cell? ⟨w.heap.size, 0, none⟩ = some (.string (txt s)) := zcell HS.out 0 _ rfl
    have hc1 : wr.cell? ⟨w.heap.size, 1, none⟩ = some (.int .i64 l) := zcell HS.out 1 _ rfl
    cases s with
    | nil =>
      have hD : (r1, r2, r3) = (out, 0, 0) := HD.out
      injection hD with e1 e2
      injection e2 with e2 e3
      subst e1 e2 e3
      clear HD
      go_wp2
      go_ret3
      exact ⟨_, rfl, Kd.R_mono HR.out (fun _ _ => trivial), HB.out⟩
    | cons c t =>
      have hs2 : t.length + 1 ≤ 140737488351232 := by have := hls; simp at this; omega
      go_wp2_with fail
      refine (next.calls _ c t l _ HS.out hs2).mono ?_
      rintro e w1 ⟨rfl, hC, hS⟩
      obtain ⟨tk, htk⟩ : ∃ x, x = (nextL (c :: t) l).1 := ⟨_, rfl⟩
      obtain ⟨er, her⟩ : ∃ x, x = (nextL (c :: t) l).2.1 := ⟨_, rfl⟩
      obtain ⟨rs, hrs⟩ : ∃ x, x = (nextL (c :: t) l).2.2 := ⟨_, rfl⟩
      have hnl := next_len c t l
      have hD := HD.out
      unfold tokStep at hD
      rw [if_neg (by simp)] at hD
      rw [← htk, ← her, ← hrs] at hD
      rw [← her, ← hrs] at hnl
      rw [← htk, ← her]
      rw [← hrs] at hS
      have HS1 := Aside0.mk hS
      have HR1 := Aside0.mk (R_ch HR.out hC (fun k h => h))
      have HB1 := Aside0.mk (below_ch HB.out hC HB.out.size (fun k h => by omega))
      have hd1 : w1.cell? ⟨w.heap.size, 1, none⟩ = some (.int .i64 l) := zcell hS 1 _ rfl
      have HDD := Aside0.mk hD
      have HNL := Aside0.mk hnl
      clear htk her hrs hD hC hS HR HB HS HD hc0 hc1 hnl
      by_cases h0 : er = 0
      · have hD0 := HDD.out
        rw [if_pos h0] at hD0
        have HN1 := Aside0.mk (HNL.out h0)
        have HD := Aside0.mk hD0
        clear HDD HNL hD0
        subst h0
        have HRa := Aside0.mk (R_ch HR1.out ((Ch.refl (fun _ => False) w1).alloc (.cells #[.int .i64 tk.f0, .string tk.f1, .int .i64 tk.f2] 98 (0, 0))) (fun k _ h => h))
        have HBa := Aside0.mk (below_alloc HB1.out (.cells #[.int .i64 tk.f0, .string tk.f1, .int .i64 tk.f2] 98 (0, 0)))
        have HSa := Aside0.mk ((Ch.alloc (Ch.refl (fun _ => False) w1) (.cells #[.int .i64 tk.f0, .string tk.f1, .int .i64 tk.f2] 98 (0, 0))).heap HS1.out (fun h => h))
        have HLa : Aside0 (w.heap.size < w1.heap.size) := ⟨lt_of_block HS1.out⟩
        have HOa : Aside0 ((out.length + 1) * 32 ≤ 140737488355328) := ⟨by have := HO.out; simp at this; omega⟩
        have hsz : (w1.alloc (.cells #[.int .i64 tk.f0, .string tk.f1, .int .i64 tk.f2] 98 (0, 0))).heap.size = w1.heap.size + 1 := Array.size_push _
        go_wp2_with ((with_reducible refine gate_builtin (b := .append) (xs := #[.tmp 36, .tmp 38]) rfl ?_); at_builtin; refine Aside0.out (?_ : Aside0 _))
        refine ⟨?_⟩
        refine Kd.R_append k98 (w0 := w) w.heap.size rfl (.tmp 36) (.tmp 38) 90 98 (.agg #[(.int .i64 0), (.string ⟨#[]⟩), (.int .i64 0)]) 32 rfl Tryd.underlying90 info98 rfl (by decide) (by decide) u5 out tk [.int .i64 tk.f0, .string tk.f1, .int .i64 tk.f2] (fun k => k ≠ w.heap.size) (fun _ => False) rfl (by rw [hsz]; rfl) (k98_mkM _ _ _ tk) (fun _ hk => hk.elim) (fun k hk h => by rw [h] at hk; have := HLa.out; simp at hk; omega) HRa.out HBa.out HBa.out.size HOa.out ?_
        intro v1 w2 hR hB hG _
        have X := Aside0.mk (And.intro hR (And.intro hB hG))
        clear hR hB hG
        have HR2 := Aside0.mk X.out.1
        have HB2 := Aside0.mk X.out.2.1
        have hS2 : w2.heap[w.heap.size]? = some (.cells #[.string (txt rs), .int .i64 l] 143 (0, 0)) := (X.out.2.2.block w.heap.size (by have := HLa.out; simp; omega) (fun h => HRa.out.1 _ h.symm rfl)).trans HSa.out
        have HS2 := Aside0.mk hS2
        clear hS2 X HRa HBa HSa HLa HOa HS1 HR1 HB1 hd1
        have hn : (c :: t).length ≤ n := HN.out
        obtain ⟨n', rfl⟩ : ∃ n', n = n' + 1 := ⟨n - 1, by simp at hn; omega⟩
        have HN2 : Aside0 (rs.length ≤ n') := ⟨by have := HN1.out; simp at hn; omega⟩
        have HO2 : Aside0 (((out ++ [tk]).length : Int) + rs.length ≤ 65536) := ⟨by have := HO.out; have := HN1.out; simp at *; omega⟩
        have hrl : l + rs.length ≤ 65537 := by have := HN1.out; simp at hls; omega
        clear hn HN HO HN1 hs2 hls
        go_wp2_with fail
        refine (skip.calls _ rs l _ HS2.out (by omega) (by omega)).mono ?_
        rintro e w3 ⟨rfl, hC, hS⟩
        have HS3 := Aside0.mk hS
        have HB3 := Aside0.mk (below_ch HB2.out hC HB2.out.size (fun k h => by omega))
        have HR3 := Aside0.mk (R_ch HR2.out hC (fun k h => h))
        have HL3 := Aside0.mk (sk_len rs false l)
        have HL4 := Aside0.mk (sk_bd rs false l)
        clear hC hS HS2 HB2 HR2
        have HD3 : Aside0 ((r1, r2, r3) = tokStep n' (sk false rs l).1 (sk false rs l).2 (out ++ [tk])) := ⟨by rw [← toksL_step]; exact HD.out⟩
        clear HD
        have hgk : gk = n' + 2 := HQ.out.symm
        subst hgk
        go_wp2_with fail
        go_roundg (n' + 1)
        case measure => omega
        case rel =>
          exact ⟨_, _, out ++ [tk], n', by have := HL4.out; omega, by have := HL4.out; omega, ⟨by have := HL3.out; have := HN2.out; omega⟩, ⟨rfl⟩, ⟨by have := HO2.out; have := HL3.out; omega⟩, HD3, HS3, HR3, HB3⟩
      · have hD0 := HDD.out
        rw [if_neg h0] at hD0
        injection hD0 with e1 e2
        injection e2 with e2 e3
        subst e1 e2 e3
        clear HDD HNL
        have hd2 := zcell ((Ch.alloc (Ch.refl (fun _ => False) w1) (.cells #[.int .i64 tk.f0, .string tk.f1, .int .i64 tk.f2] 98 (0, 0))).heap HS1.out (fun h => h)) 1 _ rfl
        have HB2 := Aside0.mk (below_alloc HB1.out (.cells #[.int .i64 tk.f0, .string tk.f1, .int .i64 tk.f2] 98 (0, 0)))
        clear HB1
        go_wp2_with fail
        go_quiet (fail)
        go_wp2_with fail
        go_ret3
        exact ⟨_, rfl, Kd.R_nil _ _ _ _ _, by repeat (first | exact HB2.out | apply pw_below_drewN | apply below_drew1)⟩

-- NOT PRINTED: function 39 (script_need)

-- NOT PRINTED: function 38 (script_reader_peek)

-- NOT PRINTED: function 137 (slices_IndexFunc_int_int)

-- NOT PRINTED: function 118 (slices_ContainsFunc_int_int)

-- NOT PRINTED: function 97 (script_in)

end Go.Proofs.YtaoffnhladfdcaaDoor.EScriptTrace
