/- The parser's steps: tokens asked for, names, numbers, types. -/
import Derived.Test.YtoloneoeojoiaaaMayA
namespace Go.Proofs.Ytoloneoeojoiaaa.EParseBack
open Go.RowKit Go.Shelf Go.Proofs.YtoloneoeojoiaaaW.PrintWords Go.Proofs.YtoloneoeojoiaaaW.PrintLast Go.Proofs.YtoloneoeojoiaaaW.PrintMore
set_option linter.unusedVariables false
set_option linter.unusedSimpArgs false
theorem TokAt.cons {w : World} {pb : Nat} {s : Sch} {t : S31} {r : List S31} {n : Int} (h : TokAt w pb s (t :: r) n) : ∃ ad m c, m = r.length + 1 ∧ w.heap[pb]? = some (.cells #[.slice (some ad) m c, .int .i64 n, s.a, s.b, s.c] 80 (0, 0)) ∧ m ≤ c ∧ m ≤ 9223372036854775807 ∧ Kd.C k31 w (some ad) m (t :: r) ∧ FarT (some ad) m pb ∧ w.cell? ad = some (.int .i64 t.f0) ∧ w.cell? ⟨ad.block, ad.off + 1, none⟩ = some (.string t.f1) ∧ w.cell? ⟨ad.block, ad.off + 2, none⟩ = some (.int .i64 t.f2) := by
  obtain ⟨A, c, hb, hc, hC, hF⟩ := h.at_
  obtain ⟨ad, e1, hy0, hy1, hy2⟩ := at_T31 hC 0 (by omega) (by simp only [List.length_cons]; omega)
  subst e1
  have e : ad.add (Int.toNat 0 * 3) = ad := by
    show ad.add 0 = ad
    unfold Addr.add; simp
  rw [e] at hy0 hy1 hy2
  exact ⟨ad, _, c, rfl, hb, hc, hC.2.1, hC, hF, hy0, hy1, hy2⟩
set_option maxHeartbeats 1000000 in
set_option maxRecDepth 100000 in
theorem here.calls (pb : Nat) (s : Sch) (l : List S31) (n : Int) (w : World) (h : TokAt w pb s l n) : Calls Try.prog 38 #[.pointer (some ⟨pb, 0, none⟩)] w fun e w' => e = .returned (.int .i64 (hereP l n)) ∧ Below w.heap.size w w' := by
  cases l with
  | nil =>
    obtain ⟨A, c, hb, hc, hC, hF⟩ := h.at_
    have hx0 := zcell hb 0 _ rfl
    have hx1 := zcell hb 1 _ rfl
    unfold hereP
    clear hb h hC
    go_enter Try.func38, Try.ntmps38
    go_wp2_with fail
    go_ret
    exact ⟨rfl, Below.refl _ _⟩
  | cons t r =>
    obtain ⟨ad, m, c, hm, hb, hc, hm2, hC, hF, hy0, hy1, hy2⟩ := h.cons
    have hx0 := zcell hb 0 _ rfl
    have hx1 := zcell hb 1 _ rfl
    unfold hereP
    clear hb h hC
    have hp : (0 : Int) < ((m : Nat) : Int) := by omega
    clear hm
    go_enter Try.func38, Try.ntmps38
    go_wp2_with fail
    go_ret
    exact ⟨rfl, Below.refl _ _⟩
set_option maxHeartbeats 1000000 in
set_option maxRecDepth 100000 in
theorem peek.calls (pb : Nat) (s : Sch) (l : List S31) (n : Int) (w : World) (h : TokAt w pb s l n) : Calls Try.prog 55 #[.pointer (some ⟨pb, 0, none⟩)] w fun e w' => e = .returned (.agg #[.int .i64 (peekP l).f0, .string (peekP l).f1, .int .i64 (peekP l).f2]) ∧ Below w.heap.size w w' := by
  have HT := Aside0.mk h
  clear h
  cases l with
  | nil =>
    unfold peekP
    go_enter Try.func55, Try.ntmps55
    go_wp2_with (first | ((with_reducible refine gate_dst (N := 2) rfl ?_); refine box_event ?hg (N := 2) ?hd (cs := #[.int .i64 0, .string ⟨#[]⟩, .int .i64 0]) (t := 31) ?hr ?_; (case hd => rfl); (case hg => rfl); (case hr => first | (go_simp; done) | (go_simp; rfl)); intro gb hg w2 hbox hb; have HB2 := Aside0.mk hb; have BK2 := Aside0.mk hbox; have HG := Aside0.mk hg; obtain ⟨A, c, hk, hc, hC, hF⟩ := (HT.out.below hb).at_; have hx0 := zcell hk 0 _ rfl; clear hk hC hF hb hbox hg) | ((with_reducible refine gate_store (p := 2) rfl ?_); refine store_all rfl rfl 31 _ _ rfl #[.int .i64 0, .string ⟨#[]⟩, .int .i64 0] rfl rfl BK2.out rfl (by kernel_rfl) (by rfl) ?_; intro w3 h1 h2; have BK3 := Aside0.mk h1; have HB3 := Aside0.mk (below_ch HB2.out h2 HB2.out.size (fun k e => by rw [e, HG.out]; exact Nat.le_refl _)); clear h1 h2))
    refine bodyPost_ret ?_ rfl ⟨rfl, HB3.out⟩
    exact results_single rfl (.cell gb 31 #[.int .i64 0, .string ⟨#[]⟩, .int .i64 0] (0, 0) _ rfl BK3.out Try.underlying31 rfl (by exact (by kernel_rfl : (Try.prog.info? 31).map (·.size) = some 3)) .nil)
  | cons t r =>
    unfold peekP
    go_enter Try.func55, Try.ntmps55
    go_wp2_with (first | ((with_reducible refine gate_dst (N := 2) rfl ?_); refine box_event ?hg (N := 2) ?hd (cs := #[.int .i64 0, .string ⟨#[]⟩, .int .i64 0]) (t := 31) ?hr ?_; (case hd => rfl); (case hg => rfl); (case hr => first | (go_simp; done) | (go_simp; rfl)); intro gb hg w2 hbox hb; have HB2 := Aside0.mk hb; have BK2 := Aside0.mk hbox; have HG := Aside0.mk hg; obtain ⟨ad, m, c, hm, hk, hc, hm2, hC, hF, hy0, hy1, hy2⟩ := (HT.out.below hb).cons; have hx0 := zcell hk 0 _ rfl; have hp : (0 : Int) < ((m : Nat) : Int) := (by omega); have hq : (((m : Nat) : Int) == 0) = false := (by simp; omega); clear hm hk hC hF hb hbox hg) | ((with_reducible refine gate_store (p := 2) rfl ?_); refine store_all rfl rfl 31 _ _ rfl #[.int .i64 t.f0, .string t.f1, .int .i64 t.f2] rfl rfl BK2.out rfl (by kernel_rfl) (by rfl) ?_; intro w3 h1 h2; have BK3 := Aside0.mk h1; have HB3 := Aside0.mk (below_ch HB2.out h2 HB2.out.size (fun k e => by rw [e, HG.out]; exact Nat.le_refl _)); clear h1 h2))
    refine bodyPost_ret ?_ rfl ⟨rfl, HB3.out⟩
    exact results_single rfl (.cell gb 31 #[.int .i64 t.f0, .string t.f1, .int .i64 t.f2] (0, 0) _ rfl BK3.out Try.underlying31 rfl (by exact (by kernel_rfl : (Try.prog.info? 31).map (·.size) = some 3)) .nil)
theorem TokAt.keep {w w1 : World} {pb : Nat} {s : Sch} {l : List S31} {n : Int} (h : TokAt w pb s l n) (hc : Ch (fun k => k ≠ pb ∧ w.heap.size ≤ k) w w1) : TokAt w1 pb s l n := h.below (hc.belowN (fun _ h => h.2))
set_option maxHeartbeats 1000000 in
set_option maxRecDepth 100000 in
theorem take.calls (pb : Nat) (s : Sch) (t : S31) (r : List S31) (n : Int) (w : World) (h : TokAt w pb s (t :: r) n) : Calls Try.prog 77 #[.pointer (some ⟨pb, 0, none⟩)] w fun e w' => e = .returned (.string t.f1) ∧ TokAt w' pb s r t.f2 ∧ Ch (fun k => k = pb) w w' := by
  have HL := Aside0.mk h.low
  obtain ⟨ad, m, c, hm, hb, hc, hm2, hC, hF, hy0, hy1, hy2⟩ := h.cons
  have hx0 := zcell hb 0 _ rfl
  have HBK := Aside0.mk hb
  have HC := Aside0.mk hC
  have HF := Aside0.mk hF
  have HM := Aside0.mk hm
  have hcut := cutT (some ad) m c 1 (by omega) (by omega)
  have hp : (0 : Int) < ((m : Nat) : Int) := by omega
  clear hb h hC hF hm
  go_enter Try.func77, Try.ntmps77
  go_wp2_with (first | ((with_reducible refine gate_dst (N := 3) rfl ?_); refine box_event ?hg (N := 3) ?hd (cs := #[.int .i64 0, .string ⟨#[]⟩, .int .i64 0]) (t := 31) ?hr ?_; (case hd => rfl); (case hg => rfl); (case hr => first | (go_simp; done) | (go_simp; rfl)); intro gb hg w2 hbox hb; have HB2 := Aside0.mk hb; have BK2 := Aside0.mk hbox; have HG := Aside0.mk hg; have NE := Aside0.mk (show pb ≠ gb from by rw [hg]; exact Nat.ne_of_lt (lt_of_block HBK.out)); have PK2 := Aside0.mk ((Ch.of_below hb (fun _ => False)).heap HBK.out (fun h => h)); clear hb hbox hg) | ((with_reducible refine gate_store (p := 3) rfl ?_); refine store_all rfl rfl 31 _ _ rfl #[.int .i64 t.f0, .string t.f1, .int .i64 t.f2] rfl rfl BK2.out rfl (by kernel_rfl) (by rfl) ?_; intro w3 h1 h2; have BK3 := Aside0.mk h1; have HB3 := Aside0.mk (below_ch HB2.out h2 HB2.out.size (fun k e => by rw [e, HG.out]; exact Nat.le_refl _)); have PK3 := Aside0.mk (h2.heap PK2.out NE.out); clear h1 h2))
  clear hx0 hy0 hy1 hy2
  have hz0 := zcell PK3.out 0 _ rfl
  have hf0 := zfree PK3.out 0
  have hf1 := zfree PK3.out 1
  have hz1 := zcell PK3.out 1 _ rfl
  have ht1 := zcell BK3.out 1 _ rfl
  have ht2 := zcell BK3.out 2 _ rfl
  have HNE : Aside0 (¬ gb = pb) := ⟨fun e => NE.out e.symm⟩
  go_region
  all_goals
    have hc3 : Ch (fun k => k = pb) w3 (((w3.setCell ⟨pb, 0, none⟩ (.slice (dropT (some ad) c 1) (m - 1) (c - 1))).setCell ⟨pb, 1, none⟩ (.int .i64 t.f2)).drew) := (((Ch.refl (fun k => k = pb) w3).set (p := ⟨pb, 0, none⟩) (.inl rfl) _).set (p := ⟨pb, 1, none⟩) (.inl rfl) _).drew
    have hk3 : (((w3.setCell ⟨pb, 0, none⟩ (.slice (dropT (some ad) c 1) (m - 1) (c - 1))).setCell ⟨pb, 1, none⟩ (.int .i64 t.f2)).drew).heap[pb]? = some (.cells #[.slice (dropT (some ad) c 1) (m - 1) (c - 1), .int .i64 t.f2, s.a, s.b, s.c] 80 (0, 0)) := zset (zset PK3.out 0 _) 1 _
    have HC3 := Aside0.mk hc3
    have HK3 := Aside0.mk hk3
    clear hc3 hk3 hz0 hf0 hf1 hz1 ht1 ht2
    generalize (((w3.setCell ⟨pb, 0, none⟩ (.slice (dropT (some ad) c 1) (m - 1) (c - 1))).setCell ⟨pb, 1, none⟩ (.int .i64 t.f2)).drew) = W at HC3 HK3 ⊢
    have ht1 := zcell (HC3.out.heap BK3.out HNE.out) 1 _ rfl
    go_wp2_with fail
    go_ret
    have hch : Ch (fun k => k = pb) w W := (Ch.of_below HB3.out (fun k => k = pb)).trans HC3.out (fun k h => .inl h)
    have hmr : m - 1 = r.length := by have := HM.out; omega
    have hlen : (t :: r).length = m := by rw [HM.out]; rfl
    have hcd := C_dropT (m := 1) (c := c) (l := t :: r) (by rw [hlen]; exact C31_ch HC.out hch HF.out) (by rw [hlen]; omega) (by rw [hlen]; exact hc)
    refine ⟨rfl, ⟨⟨dropT (some ad) c 1, c - 1, by rw [← hmr]; exact HK3.out, by omega, hcd, far_dropT HF.out (fun h => by have := HM.out; omega)⟩, HL.out.drop HBK.out HK3.out⟩, hch⟩
abbrev St31 := List S31 × Int
/-- What a step of the parser leaves: an error, or something taken. -/
abbrev Out (α : Type) := Sum (Int × St31) (α × St31)
def askP (ok : Bool) (st : St31) : Out ByteArray := match st.1 with
  | [] => .inl (8, st)
  | t :: r => if ok = true then .inr (t.f1, (r, t.f2)) else .inl (33, st)
/-- How a step of the parser ends. -/
def Ends (w : World) (pb : Nat) (s : Sch) {α : Type} (R : α → World → Value → Prop) : Out α → Ending → World → Prop
  | .inl (c, st), e, w' => e = .panicked (pnc c) ∧ TokAt w' pb s st.1 st.2 ∧ Ch (fun k => k = pb) w w'
  | .inr (a, st), e, w' => (∃ v, e = .returned v ∧ R a w' v) ∧ TokAt w' pb s st.1 st.2 ∧ Ch (fun k => k = pb) w w'
def isStr (a : ByteArray) (_ : World) (v : Value) : Prop := v = .string a
def isInt (a : Int) (_ : World) (v : Value) : Prop := v = .int .i64 a
def isUnit (_ : Unit) (_ : World) (v : Value) : Prop := v = .tuple #[]
set_option maxHeartbeats 1000000 in
set_option maxRecDepth 100000 in
theorem ask.calls (pb : Nat) (s : Sch) (ok : Bool) (st : St31) (w : World) (h : TokAt w pb s st.1 st.2) : Calls Try.prog 56 #[.pointer (some ⟨pb, 0, none⟩), .bool ok] w (Ends w pb s isStr (askP ok st)) := by
  obtain ⟨l, n⟩ := st
  have HT := Aside0.mk h
  clear h
  cases l with
  | nil =>
    obtain ⟨A, c, hb, hc, hC, hF⟩ := HT.out.at_
    have hx0 := zcell hb 0 _ rfl
    clear hb hC hF
    show Calls Try.prog 56 _ w (fun e w' => e = .panicked (pnc 8) ∧ TokAt w' pb s [] n ∧ Ch (fun k => k = pb) w w')
    go_enter Try.func56, Try.ntmps56
    go_wp2_with fail
    go_at_call 54
    refine (need_no.calls 8 _).mono ?_
    rintro e w1 ⟨rfl, rfl⟩
    go_wp2_with fail
    exact ⟨rfl, rfl, HT.out, Ch.refl _ _⟩
  | cons t r =>
    obtain ⟨ad, m, c, hm, hb, hc, hm2, hC, hF, hy0, hy1, hy2⟩ := HT.out.cons
    have hx0 := zcell hb 0 _ rfl
    have hp : (0 : Int) < ((m : Nat) : Int) := by omega
    have hd0 : decide (0 < m) = true := decide_eq_true (by omega)
    clear hb hC hF hy0 hy1 hy2 hm
    cases ok
    · show Calls Try.prog 56 _ w (fun e w' => e = .panicked (pnc 33) ∧ TokAt w' pb s (t :: r) n ∧ Ch (fun k => k = pb) w w')
      go_enter Try.func56, Try.ntmps56
      go_wp2_with fail
      go_at_call 54
      refine (need_yes.calls 8 _).mono ?_
      rintro e w1 ⟨rfl, rfl⟩
      go_wp2_with fail
      go_at_call 54
      refine (need_no.calls 33 _).mono ?_
      rintro e w1 ⟨rfl, rfl⟩
      go_wp2_with fail
      exact ⟨rfl, rfl, HT.out, Ch.refl _ _⟩
    · show Calls Try.prog 56 _ w (fun e w' => (∃ v, e = .returned v ∧ v = .string t.f1) ∧ TokAt w' pb s r t.f2 ∧ Ch (fun k => k = pb) w w')
      go_enter Try.func56, Try.ntmps56
      go_wp2_with fail
      go_at_call 54
      refine (need_yes.calls 8 _).mono ?_
      rintro e w1 ⟨rfl, rfl⟩
      go_wp2_with fail
      go_at_call 54
      refine (need_yes.calls 33 _).mono ?_
      rintro e w1 ⟨rfl, rfl⟩
      go_wp2_with fail
      go_at_call 77
      refine (take.calls pb s t r n _ HT.out).mono ?_
      rintro e w2 ⟨rfl, ht, hc⟩
      have HT2 := Aside0.mk ht
      have HC2 := Aside0.mk hc
      clear ht hc
      go_wp2_with fail
      go_ret
      exact ⟨⟨_, rfl, rfl⟩, HT2.out, HC2.out⟩
attribute [local go_sem] Instr.field asAgg
def nameP (st : St31) : Out ByteArray := askP (nameB (peekP st.1).f1) st
theorem Ends.from {w w0 : World} {pb : Nat} {s : Sch} {α : Type} {R : α → World → Value → Prop} {o : Out α} {e : Ending} {w' : World} (h : Ends w0 pb s R o e w') (hb : Ch (fun k => k = pb) w w0) : Ends w pb s R o e w' := by
  rcases o with ⟨c, st⟩ | ⟨a, st⟩
  · exact ⟨h.1, h.2.1, hb.trans h.2.2 (fun k h => .inl h)⟩
  · exact ⟨h.1, h.2.1, hb.trans h.2.2 (fun k h => .inl h)⟩
set_option maxHeartbeats 1000000 in
set_option maxRecDepth 100000 in
theorem name.calls (pb : Nat) (s : Sch) (st : St31) (w : World) (h : TokAt w pb s st.1 st.2) : Calls Try.prog 78 #[.pointer (some ⟨pb, 0, none⟩)] w (Ends w pb s isStr (nameP st)) := by
  have HT := Aside0.mk h
  clear h
  obtain ⟨o, ho⟩ : ∃ o, o = nameP st := ⟨_, rfl⟩
  have HO : Aside0 (askP (nameB (peekP st.1).f1) st = o) := ⟨ho.symm⟩
  rw [← ho]
  clear ho
  rcases o with ⟨c, st'⟩ | ⟨a, st'⟩
  · show Calls Try.prog 78 _ w (fun e w' => e = .panicked (pnc c) ∧ TokAt w' pb s st'.1 st'.2 ∧ Ch (fun k => k = pb) w w')
    go_enter Try.func78, Try.ntmps78
    go_wp2_with (first | (go_at_call 55; refine (peek.calls pb s st.1 st.2 _ HT.out).mono ?_; rintro e w1 ⟨rfl, hb⟩; have HT1 := Aside0.mk (HT.out.below hb); have HB1 := Aside0.mk hb; clear hb) | (go_at_call 101; refine (name_.calls _ _).mono ?_; rintro e w2 ⟨rfl, hb⟩; have HT2 := Aside0.mk (HT1.out.below hb); have HB2 := Aside0.mk (below_b HB1.out hb HB1.out.size); clear hb) | (go_at_call 56; refine (ask.calls pb s _ st _ HT2.out).mono ?_; rw [HO.out]; rintro e w3 ⟨rfl, ht, hc⟩; have HT3 := Aside0.mk ht; have HC3 := Aside0.mk ((Ch.of_below HB2.out (fun k => k = pb)).trans hc (fun k h => .inl h)); clear ht hc))
    exact ⟨rfl, rfl, HT3.out, HC3.out⟩
  · show Calls Try.prog 78 _ w (fun e w' => (∃ v, e = .returned v ∧ v = .string a) ∧ TokAt w' pb s st'.1 st'.2 ∧ Ch (fun k => k = pb) w w')
    go_enter Try.func78, Try.ntmps78
    go_wp2_with (first | (go_at_call 55; refine (peek.calls pb s st.1 st.2 _ HT.out).mono ?_; rintro e w1 ⟨rfl, hb⟩; have HT1 := Aside0.mk (HT.out.below hb); have HB1 := Aside0.mk hb; clear hb) | (go_at_call 101; refine (name_.calls _ _).mono ?_; rintro e w2 ⟨rfl, hb⟩; have HT2 := Aside0.mk (HT1.out.below hb); have HB2 := Aside0.mk (below_b HB1.out hb HB1.out.size); clear hb) | (go_at_call 56; refine (ask.calls pb s _ st _ HT2.out).mono ?_; rw [HO.out]; rintro e w3 ⟨⟨v, rfl, rfl⟩, ht, hc⟩; have HT3 := Aside0.mk ht; have HC3 := Aside0.mk ((Ch.of_below HB2.out (fun k => k = pb)).trans hc (fun k h => .inl h)); clear ht hc))
    go_ret
    exact ⟨⟨_, rfl, rfl⟩, HT3.out, HC3.out⟩
def signP (x : ByteArray) (st : St31) : Out ByteArray := askP (eqS (peekP st.1).f1 x) st
set_option maxHeartbeats 1000000 in
set_option maxRecDepth 100000 in
theorem sign.calls (pb : Nat) (s : Sch) (x : ByteArray) (st : St31) (w : World) (g : Nat) (h : TokAt w pb s st.1 st.2) (hg : w.heap[g]? = some (.cells #[.string x] 9 (0, 0))) (hne : g ≠ pb) :
    Calls Try.prog 79 #[.pointer (some ⟨pb, 0, none⟩), .slice (some ⟨g, 0, none⟩) 1 1] w (Ends w pb s isUnit ((signP x st).map id (fun r => ((), r.2)))) := by
  have HT := Aside0.mk h
  have HG := Aside0.mk hg
  have hx := zcell hg 0 _ rfl
  obtain ⟨o, ho⟩ : ∃ o, o = signP x st := ⟨_, rfl⟩
  have HO : Aside0 (askP (eqS (peekP st.1).f1 x) st = o) := ⟨ho.symm⟩
  rw [← ho]
  clear ho h hg
  rcases o with ⟨c, st'⟩ | ⟨a, st'⟩
  · show Calls Try.prog 79 _ w (fun e w' => e = .panicked (pnc c) ∧ TokAt w' pb s st'.1 st'.2 ∧ Ch (fun k => k = pb) w w')
    go_enter Try.func79, Try.ntmps79
    go_wp2_with fail
    go_loopw [5, 8] (fun v5 v8 W => v8 = .int .i64 0 ∧ W = w) (fun _ _ _ => 0)
    case atStart => exact ⟨rfl, rfl⟩
    case round =>
      obtain ⟨rfl, rfl⟩ := hrel
      go_wp2_with (first | (go_at_call 55; refine (peek.calls pb s st.1 st.2 _ HT.out).mono ?_; rintro e w1 ⟨rfl, hb⟩; have HT1 := Aside0.mk (HT.out.below hb); have HB1 := Aside0.mk hb; clear hb) | (go_at_call 56; refine (ask.calls pb s _ st _ HT1.out).mono ?_; rw [show ((peekP st.1).f1.toList == x.toList) = eqS (peekP st.1).f1 x from rfl, HO.out]; rintro e w3 ⟨rfl, ht, hc⟩; have HT3 := Aside0.mk ht; have HC3 := Aside0.mk ((Ch.of_below HB1.out (fun k => k = pb)).trans hc (fun k h => .inl h)); clear ht hc))
      exact ⟨rfl, rfl, HT3.out, HC3.out⟩
  · show Calls Try.prog 79 _ w (fun e w' => (∃ v, e = .returned v ∧ v = .tuple #[]) ∧ TokAt w' pb s st'.1 st'.2 ∧ Ch (fun k => k = pb) w w')
    go_enter Try.func79, Try.ntmps79
    go_wp2_with fail
    go_loopw [5, 8] (fun v5 v8 W => (v8 = .int .i64 0 ∧ W = w) ∨ (v8 = .int .i64 1 ∧ TokAt W pb s st'.1 st'.2 ∧ Ch (fun k => k = pb) w W)) (fun _ v _ => 1 - (intOf v).toNat)
    case atStart => exact .inl ⟨rfl, rfl⟩
    case round =>
      rcases hrel with ⟨rfl, rfl⟩ | ⟨rfl, ht, hc⟩
      · go_wp2_with (first | (go_at_call 55; refine (peek.calls pb s st.1 st.2 _ HT.out).mono ?_; rintro e w1 ⟨rfl, hb⟩; have HT1 := Aside0.mk (HT.out.below hb); have HB1 := Aside0.mk hb; clear hb) | (go_at_call 56; refine (ask.calls pb s _ st _ HT1.out).mono ?_; rw [show ((peekP st.1).f1.toList == x.toList) = eqS (peekP st.1).f1 x from rfl, HO.out]; rintro e w3 ⟨⟨v, rfl, rfl⟩, ht, hc⟩; have HT3 := Aside0.mk ht; have HC3 := Aside0.mk ((Ch.of_below HB1.out (fun k => k = pb)).trans hc (fun k h => .inl h)); clear ht hc))
        exact ⟨.inr ⟨rfl, HT3.out, HC3.out⟩, by simp [intOf]⟩
      · have HT3 := Aside0.mk ht
        have HC3 := Aside0.mk hc
        clear ht hc hx
        go_wp2_with fail
        go_end0
        exact ⟨⟨_, rfl, rfl⟩, HT3.out, HC3.out⟩
/-- A number's digits, read on from n. -/
def numS : Int → List UInt8 → Int
  | n, [] => n
  | n, c :: t => numS (wrap64 (wrap64 (10 * n) + ((c.toNat : Int) - 48) % 256)) t
def numT (t : S31) : Int × Int := if checkT t = 0 then (if t.f0 = 2 then (numS 0 t.f1.data.toList, 0) else (0, 23)) else (0, checkT t)
def lex_Number.f (a0_0 : Int) (a0_1 : ByteArray) (a0_2 : Int) : Option (Int × Int) := some (numT ⟨a0_0, a0_1, a0_2⟩)
set_option maxRecDepth 100000 in
set_option maxHeartbeats 2000000 in
theorem lex_Number.calls (a0_0 : Int) (a0_1 : ByteArray) (a0_2 : Int) (r0 r1 : Int) (w : World) (h : lex_Number.f a0_0 a0_1 a0_2 = some (r0, r1)) :
    Calls Try.prog 28 #[.agg #[.int .i64 a0_0, .string a0_1, .int .i64 a0_2]] w fun e w' => e = .returned (.tuple #[.int .i64 r0, .int .i64 r1]) ∧ Below w.heap.size w w' := by
  have hu31 := Try.underlying31
  have h := Option.some.inj h
  unfold numT at h
  simp only [] at h
  obtain ⟨k, hk⟩ : ∃ k, k = checkT ⟨a0_0, a0_1, a0_2⟩ := ⟨_, rfl⟩
  have HK : Aside0 (lex_Check.f a0_0 a0_1 a0_2 = some k) := ⟨by rw [hk]; rfl⟩
  rw [← hk] at h
  have hsz : k = 0 → a0_1.size ≤ 65536 := by
    intro h0
    rw [hk] at h0
    unfold checkT tokF at h0
    simp only [] at h0
    apply Classical.byContradiction
    intro hn
    rw [if_pos (show (a0_1.size : Int) > 65536 by omega)] at h0
    split at h0
    · exact absurd h0 (by decide)
    · split at h0
      · exact absurd h0 (by decide)
      · rw [if_pos (by decide)] at h0; exact absurd h0 (by decide)
  have HSZ := Aside0.mk hsz
  clear hk hsz
  have HX0 := Aside0.mk (heap_alloc_new w (.cells #[.int .i64 a0_0, .string a0_1, .int .i64 a0_2] 31 (0, 0)))
  have HBW := Aside0.mk (below_alloc (Below.refl w.heap.size w) (.cells #[.int .i64 a0_0, .string a0_1, .int .i64 a0_2] 31 (0, 0)))
  have y0 := zcell HX0.out 0 (.int .i64 a0_0) rfl
  have y1 := zcell HX0.out 1 (.string a0_1) rfl
  have y2 := zcell HX0.out 2 (.int .i64 a0_2) rfl
  by_cases c0 : k = 0
  · subst c0
    rw [if_pos rfl] at h
    by_cases c1 : a0_0 = 2
    · subst c1
      rw [if_pos rfl] at h
      injection h with h1 h2
      subst h2
      have HQ := Aside0.mk h1
      clear h1
      obtain ⟨s, rfl⟩ : ∃ s, a0_1 = txt s := ⟨a0_1.data.toList, (txt_data a0_1).symm⟩
      have hs : s.length ≤ 65536 := by have := HSZ.out rfl; rwa [txt_size] at this
      have HQ2 : Aside0 (numS 0 (s.drop 0) = r0) := ⟨by have := HQ.out; rwa [txt_list] at this⟩
      obtain ⟨l, hl⟩ : ∃ l, l = bytesOf (txt s) := ⟨_, rfl⟩
      have hn : (txt s).size = l.length := by rw [hl, bytesOf_length]
      have kb : ∀ W, (convert 9 99 (.string (txt s))).run Try.prog W = .ok (.slice (some ⟨W.heap.size, 0, none⟩) l.length (grownCap W l.length 0 5)) (Lib.bytesWorld W 5 (txt s)) := fun W => by
        have := print_bytes (P := Try.prog) 9 99 5 Try.underlying9 Try.underlying99 Try.underlying5 (txt s) W
        rw [hn] at this; exact this
      have hr : ∀ W, Kd.C (Kd.int .u8) (Lib.bytesWorld W 5 (txt s)) (some ⟨W.heap.size, 0, none⟩) l.length l := fun W => by
        have := bytes_reads W 5 (txt s) (by rw [txt_size]; omega)
        rw [hn, ← hl] at this
        exact Kd.C_of_reads (d := (0 : Int)) (h1 := fun _ => rfl) this
      have hll : l.length = s.length := by rw [← hn, txt_size]
      have hget : ∀ i (hi : i < s.length), rd l (i : Int) = ((s[i].toNat : Nat) : Int) := fun i hi => by
        rw [hl]; unfold rd bytesOf
        rw [txt_list, Int.toNat_natCast, List.getD_eq_getElem?_getD, List.getElem?_map, List.getElem?_eq_getElem hi]; rfl
      have HR := Aside0.mk hr
      have HL := Aside0.mk hll
      have HG := Aside0.mk hget
      clear hr hn hl HQ hll hget
      go_enter Try.func28, Try.ntmps28
      go_wp2_with fail
      refine (lex_Check.calls 2 (txt s) a0_2 0 _ HK.out).mono ?_
      rintro e w1 ⟨rfl, hb⟩
      have hX := (Ch.of_below hb (fun _ => False)).heap HX0.out (fun h => h)
      have x0 := zcell hX 0 (.int .i64 2) rfl
      have x1 := zcell hX 1 (.string (txt s)) rfl
      have HB := Aside0.mk (below_ls HBW.out hb HBW.out.size)
      have HBB := Aside0.mk (bytes_below HB.out HB.out.size 5 (txt s))
      clear hb hX y0 y1 y2
      go_wp2_with fail
      clear kb x0 x1
      have HRW := Aside0.mk (HR.out w1)
      obtain ⟨gc, hgc⟩ : ∃ gc, gc = grownCap w1 l.length 0 5 := ⟨_, rfl⟩
      rw [← hgc]
      obtain ⟨g, hg⟩ : ∃ g, g = w1.heap.size := ⟨_, rfl⟩
      rw [← hg] at HRW ⊢
      generalize Lib.bytesWorld w1 5 (txt s) = W at HBB HRW ⊢
      clear hgc hg HR
      have hle : l.length ≤ 65536 := by rw [HL.out]; exact hs
      go_loop [5, 7, 20] (fun v5 v7 v20 => ∃ (i : Nat) (n : Int), i ≤ l.length ∧ v5 = .int .i64 n ∧ v20 = .int .i64 i ∧ Aside0 (numS n (s.drop i) = r0)) (fun _ _ v => l.length - (intOf v).toNat)
      case atStart => exact ⟨0, 0, by omega, rfl, rfl, HQ2⟩
      case round =>
        clear HQ2
        obtain ⟨i, n, hi, rfl, rfl, HQ⟩ := hrel
        by_cases hlt : i < l.length
        · obtain ⟨ad, ea, hx⟩ := Kd.at_int HRW.out (i : Int) (by omega) (by omega)
          cases ea
          have his : i < s.length := by rw [← HL.out]; exact hlt
          rw [HG.out i his] at hx
          rw [Int.toNat_natCast] at hx
          simp only [add_plain, Nat.mul_one, Nat.zero_add] at hx
          have hq := HQ.out
          rw [List.drop_eq_getElem_cons his] at hq
          have hq2 : numS (wrap64 (wrap64 (10 * n) + ((s[i].toNat : Int) - 48) % 256)) (s.drop (i + 1)) = r0 := hq
          have HQ3 := Aside0.mk hq2
          clear hq2
          have hc0 : (0 : Int) ≤ (s[i].toNat : Int) := by omega
          have hc1 : ((s[i].toNat : Nat) : Int) ≤ 255 := by have := s[i].toNat_lt; omega
          generalize ((s[i].toNat : Nat) : Int) = c at hx hc0 hc1 HQ3
          clear hq
          go_wp2_with fail
          exact ⟨⟨i + 1, _, by omega, rfl, by go_num, HQ3⟩, by simp [intOf]; omega⟩
        · obtain rfl : i = l.length := by omega
          have hq : n = r0 := by have := HQ.out; rw [HL.out, List.drop_eq_nil_of_le (Nat.le_refl _)] at this; exact this
          subst hq
          go_wp2_with fail
          go_ret2
          exact ⟨rfl, HBB.out⟩
    · rw [if_neg c1] at h
      injection h with h1 h2
      subst h1 h2
      have b1 : (a0_0 != 2) = true := bne_iff_ne.mpr c1
      go_enter Try.func28, Try.ntmps28
      go_wp2_with fail
      refine (lex_Check.calls a0_0 a0_1 a0_2 0 _ HK.out).mono ?_
      rintro e w1 ⟨rfl, hb⟩
      have hX := (Ch.of_below hb (fun _ => False)).heap HX0.out (fun h => h)
      have x0 := zcell hX 0 (.int .i64 a0_0) rfl
      have HB := Aside0.mk (below_ls HBW.out hb HBW.out.size)
      clear hb hX y0 y1 y2
      go_wp2_with fail
      go_ret2
      exact ⟨rfl, HB.out⟩
  · rw [if_neg c0] at h
    injection h with h1 h2
    subst h1 h2
    have b1 : (k != 0) = true := bne_iff_ne.mpr c0
    go_enter Try.func28, Try.ntmps28
    go_wp2_with fail
    refine (lex_Check.calls a0_0 a0_1 a0_2 k _ HK.out).mono ?_
    rintro e w1 ⟨rfl, hb⟩
    have HB := Aside0.mk (below_ls HBW.out hb HBW.out.size)
    clear hb y0 y1 y2
    go_wp2_with fail
    go_ret2
    exact ⟨rfl, HB.out⟩
attribute [local go_sem] Instr.field asAgg
def numberP (st : St31) : Out Int := (askP ((peekP st.1).f0 == 2) st).map id (fun r => ((numT (peekP st.1)).1, r.2))
set_option maxHeartbeats 1000000 in
set_option maxRecDepth 100000 in
theorem number.calls (pb : Nat) (s : Sch) (st : St31) (w : World) (h : TokAt w pb s st.1 st.2) : Calls Try.prog 82 #[.pointer (some ⟨pb, 0, none⟩)] w (Ends w pb s isInt (numberP st)) := by
  have HT := Aside0.mk h
  clear h
  obtain ⟨o, ho⟩ : ∃ o, o = askP ((peekP st.1).f0 == 2) st := ⟨_, rfl⟩
  have HO := Aside0.mk ho.symm
  unfold numberP
  rw [← ho]
  clear ho
  obtain ⟨q, hq⟩ : ∃ q, q = numT (peekP st.1) := ⟨_, rfl⟩
  have HQ : Aside0 (lex_Number.f (peekP st.1).f0 (peekP st.1).f1 (peekP st.1).f2 = some (q.1, q.2)) := ⟨by rw [hq]; rfl⟩
  rw [← hq]
  clear hq
  rcases o with ⟨c, st'⟩ | ⟨a, st'⟩
  · show Calls Try.prog 82 _ w (fun e w' => e = .panicked (pnc c) ∧ TokAt w' pb s st'.1 st'.2 ∧ Ch (fun k => k = pb) w w')
    go_enter Try.func82, Try.ntmps82
    go_wp2_with fail
    go_at_call 55
    refine (peek.calls pb s st.1 st.2 _ HT.out).mono ?_
    rintro e w1 ⟨rfl, hb⟩
    have HT1 := Aside0.mk (HT.out.below hb)
    have HB1 := Aside0.mk hb
    clear hb
    go_wp2_with (first | (go_at_call 28; refine (lex_Number.calls _ _ _ q.1 q.2 _ HQ.out).mono ?_; rintro e w2 ⟨rfl, hb⟩; have HT2 := Aside0.mk (HT1.out.below hb); have HB2 := Aside0.mk (below_b HB1.out hb HB1.out.size); clear hb) | (go_at_call 55; refine (peek.calls pb s st.1 st.2 _ HT2.out).mono ?_; rintro e w3 ⟨rfl, hb⟩; have HT3 := Aside0.mk (HT2.out.below hb); have HB3 := Aside0.mk (below_b HB2.out hb HB2.out.size); clear hb) | (go_at_call 56; refine (ask.calls pb s _ st _ HT3.out).mono ?_; rw [HO.out]; rintro e w4 ⟨rfl, ht, hc⟩; have HT4 := Aside0.mk ht; have HC4 := Aside0.mk ((Ch.of_below HB3.out (fun k => k = pb)).trans hc (fun k h => .inl h)); clear ht hc))
    exact ⟨rfl, rfl, HT4.out, HC4.out⟩
  · show Calls Try.prog 82 _ w (fun e w' => (∃ v, e = .returned v ∧ v = .int .i64 q.1) ∧ TokAt w' pb s st'.1 st'.2 ∧ Ch (fun k => k = pb) w w')
    go_enter Try.func82, Try.ntmps82
    go_wp2_with fail
    go_at_call 55
    refine (peek.calls pb s st.1 st.2 _ HT.out).mono ?_
    rintro e w1 ⟨rfl, hb⟩
    have HT1 := Aside0.mk (HT.out.below hb)
    have HB1 := Aside0.mk hb
    clear hb
    go_wp2_with (first | (go_at_call 28; refine (lex_Number.calls _ _ _ q.1 q.2 _ HQ.out).mono ?_; rintro e w2 ⟨rfl, hb⟩; have HT2 := Aside0.mk (HT1.out.below hb); have HB2 := Aside0.mk (below_b HB1.out hb HB1.out.size); clear hb) | (go_at_call 55; refine (peek.calls pb s st.1 st.2 _ HT2.out).mono ?_; rintro e w3 ⟨rfl, hb⟩; have HT3 := Aside0.mk (HT2.out.below hb); have HB3 := Aside0.mk (below_b HB2.out hb HB2.out.size); clear hb) | (go_at_call 56; refine (ask.calls pb s _ st _ HT3.out).mono ?_; rw [HO.out]; rintro e w4 ⟨⟨v, rfl, rfl⟩, ht, hc⟩; have HT4 := Aside0.mk ht; have HC4 := Aside0.mk ((Ch.of_below HB3.out (fun k => k = pb)).trans hc (fun k h => .inl h)); clear ht hc))
    go_ret
    exact ⟨⟨_, rfl, rfl⟩, HT4.out, HC4.out⟩
attribute [local go_sem] Instr.field asAgg
theorem C31_far {w w1 : World} {A : Option Addr} {n g : Nat} {l : List S31} (h : Kd.C k31 w A n l) (hc : Ch (fun k => k = g) w w1) (hf : FarT A n g) : Kd.C k31 w1 A n l := C31_ch h hc hf
theorem tok_lt {w : World} {pb : Nat} {s : Sch} {l : List S31} {n : Int} (h : TokAt w pb s l n) : pb < w.heap.size := by
  obtain ⟨A, c, hb, _⟩ := h.at_
  exact lt_of_block hb
theorem far_other {w : World} {A : Option Addr} {n g : Nat} {l : List S31} {a b v : Value} {T : TypeId} (h : Kd.C k31 w A n l) (hb : w.heap[g]? = some (.cells #[a, b, v] T (0, 0))) (hv : ∀ i, v ≠ .int .i64 i) : FarT A n g := by
  intro ad e hp he
  obtain ⟨ad', e', f⟩ := h.2.2 hp
  rw [e] at e'
  injection e' with e'
  subst e'
  have hl : 0 < l.length := by rw [h.1]; exact hp
  obtain ⟨c, h1, h2, h3⟩ := f 0 _ (List.getElem?_eq_getElem hl)
  have := k31_open h2
  subst this
  have h4 := h3 2 _ rfl
  have e2 : ad.add (0 * k31.sz + 2) = ⟨g, ad.off + 2, none⟩ := by
    rw [Nat.zero_mul, Nat.zero_add, ← he]
    unfold Addr.add
    rw [if_neg (by decide)]
  rw [e2, cell_of_row w g _ _ T (0, 0) hb] at h4
  have h5 : ad.off + 2 < 3 := (Array.getElem?_eq_some_iff.1 h4).1
  have h6 : ad.off = 0 := by omega
  rw [h6] at h4
  exact hv _ (by simpa using h4)
theorem TokAt.other {w w1 : World} {pb g : Nat} {s : Sch} {l : List S31} {n : Int} {a b v : Value} {T : TypeId} (h : TokAt w pb s l n) (hc : Ch (fun k => k = g) w w1) (hne : ¬ g = pb) (hb : w.heap[g]? = some (.cells #[a, b, v] T (0, 0))) (hv : ∀ i, v ≠ .int .i64 i) : TokAt w1 pb s l n := by
  obtain ⟨A, c, h1, h2, h3, h4⟩ := h.at_
  exact ⟨⟨A, c, hc.heap h1 (fun e => hne e.symm), h2, C31_far h3 hc (far_other h3 hb hv), h4⟩, h.low.heap (by rw [hc.heap h1 (fun e => hne e.symm), h1])⟩
def isTy (base : Nat) (t : S50) (w' : World) (v : Value) : Prop := ∃ v2, v = .agg #[.int .i64 t.f0, .string t.f1, v2] ∧ Kd.R k50 50 w' base (fun _ => True) v2 t.f2
def tLB : ByteArray := ⟨#[91]⟩
def tRB : ByteArray := ⟨#[93]⟩
def tQ : ByteArray := ⟨#[63]⟩
def typedP : Nat → St31 → Out S50
  | 0, st => match st.1 with | [] => .inl (8, st) | _ :: _ => .inl (42, st)
  | k + 1, (l, n) => match l with
    | [] => .inl (8, (l, n))
    | t :: r =>
      if plainP t.f1 > 0 then .inr (⟨plainP t.f1, ⟨#[]⟩, []⟩, (r, t.f2))
      else if eqS t.f1 tLB = true then (match typedP k (r, t.f2) with
        | .inl e => .inl e
        | .inr (x, st2) => (signP tRB st2).map id (fun q => (⟨6, ⟨#[]⟩, [x]⟩, q.2)))
      else if eqS t.f1 tQ = true then (typedP k (r, t.f2)).map id (fun q => (⟨7, ⟨#[]⟩, [q.1]⟩, q.2))
      else (nameP (t :: r, n)).map id (fun q => (⟨8, q.1, []⟩, q.2))
set_option maxHeartbeats 1000000 in
set_option maxRecDepth 100000 in
theorem typed_nil (pb : Nat) (s : Sch) (n d : Int) (w : World) (h : TokAt w pb s [] n) (h0 : 1 ≤ d) (h1 : d ≤ 9) : Calls Try.prog 83 #[.pointer (some ⟨pb, 0, none⟩), .int .i64 d] w (fun e w' => e = .panicked (pnc 8) ∧ TokAt w' pb s [] n ∧ Ch (fun k => k = pb) w w') := by
  have HT := Aside0.mk h
  clear h
  obtain ⟨x, hx⟩ : ∃ x, x = (peekP ([] : List S31)).f1 := ⟨_, rfl⟩
  have hqa : (x.toList == [91]) = false := by rw [hx]; decide +kernel
  have hqb : (x.toList == [63]) = false := by rw [hx]; decide +kernel
  have HX := Aside0.mk hx
  have HP : Aside0 (plainP x = 0) := ⟨by rw [hx]; decide +kernel⟩
  have HN : Aside0 (nameP ([], n) = .inl (8, ([], n))) := ⟨rfl⟩
  clear hx
  go_enter Try.func83, Try.ntmps83
  go_wp2_with (first | ((with_reducible refine gate_dst (N := 4) rfl ?_); refine box_event ?hg (N := 4) ?hd (cs := #[.int .i64 0, .string ⟨#[]⟩, .slice none 0 0]) (t := 50) ?hr ?_; (case hd => rfl); (case hg => rfl); (case hr => first | (go_simp; done) | (go_simp; rfl)); intro gb hg w2 hbox hb; have HB2 := Aside0.mk hb; have BK2 := Aside0.mk hbox; have HG := Aside0.mk hg; have HT2 := Aside0.mk (HT.out.below hb); have NE := Aside0.mk (show ¬ gb = pb from by rw [hg]; exact Nat.ne_of_gt (tok_lt HT.out)); obtain ⟨A, c, hk, hc, hC, hF⟩ := (HT.out.below hb).at_; have hx0 := zcell hk 0 _ rfl; clear hk hC hF; clear hbox hg hb))
  have HB2 := Aside0.mk (Ch.of_below HB2.out (fun k => k = pb))
  go_at_call 54
  refine (need_yes.calls 42 _).mono ?_
  rintro e wA ⟨rfl, rfl⟩
  go_wp2_with fail

  go_at_call 55
  refine (peek.calls pb s [] n _ HT2.out).mono ?_
  rintro e w3 ⟨rfl, hb⟩
  rw [← HX.out]
  have HT3 := Aside0.mk (HT2.out.below hb)
  have HB3 := Aside0.mk (HB2.out.thenB hb)
  have BK3 := Aside0.mk ((Ch.of_below hb (fun _ => False)).heap BK2.out (fun h => h))
  clear hb
  go_wp2_with fail
  go_at_call 102
  refine (plain.calls _ _).mono ?_
  rintro e w4 ⟨rfl, hb⟩
  rw [HP.out]
  have HT4 := Aside0.mk (HT3.out.below hb)
  have HB4 := Aside0.mk (HB3.out.thenB hb)
  have BK4 := Aside0.mk ((Ch.of_below hb (fun _ => False)).heap BK3.out (fun h => h))
  clear hb
  go_wp2_with fail
  go_at_call 78
  refine (name.calls pb s ([], n) _ HT4.out).mono ?_
  rw [HN.out]
  rintro e w5 ⟨rfl, ht, hc⟩
  have HT5 := Aside0.mk ht
  have HC5 := Aside0.mk (HB4.out.trans hc (fun k h => .inl h))
  clear ht hc
  go_wp2_with fail
  exact ⟨rfl, rfl, HT5.out, HC5.out⟩
set_option maxHeartbeats 1000000 in
set_option maxRecDepth 100000 in
theorem typed_deep (pb : Nat) (s : Sch) (t : S31) (r : List S31) (n : Int) (w : World) (h : TokAt w pb s (t :: r) n) : Calls Try.prog 83 #[.pointer (some ⟨pb, 0, none⟩), .int .i64 9] w (fun e w' => e = .panicked (pnc 42) ∧ TokAt w' pb s (t :: r) n ∧ Ch (fun k => k = pb) w w') := by
  have HT := Aside0.mk h
  clear h
  go_enter Try.func83, Try.ntmps83
  go_wp2_with (first | ((with_reducible refine gate_dst (N := 4) rfl ?_); refine box_event ?hg (N := 4) ?hd (cs := #[.int .i64 0, .string ⟨#[]⟩, .slice none 0 0]) (t := 50) ?hr ?_; (case hd => rfl); (case hg => rfl); (case hr => first | (go_simp; done) | (go_simp; rfl)); intro gb hg w2 hbox hb; have HB2 := Aside0.mk hb; have BK2 := Aside0.mk hbox; have HG := Aside0.mk hg; have HT2 := Aside0.mk (HT.out.below hb); have NE := Aside0.mk (show ¬ gb = pb from by rw [hg]; exact Nat.ne_of_gt (tok_lt HT.out)); obtain ⟨ad, m, c, hm, hk, hc, hm2, hC, hF, hy0, hy1, hy2⟩ := (HT.out.below hb).cons; have hx0 := zcell hk 0 _ rfl; have hp : (0 : Int) < ((m : Nat) : Int) := (by omega); have hq : (((m : Nat) : Int) == 0) = false := (by simp; omega); clear hm hk hC hF hy0 hy1 hy2; clear hbox hg hb))
  go_at_call 54
  refine (need_no.calls 42 _).mono ?_
  rintro e wA ⟨rfl, rfl⟩
  go_wp2_with fail
  exact ⟨rfl, rfl, HT2.out, Ch.of_below HB2.out _⟩
set_option maxHeartbeats 1000000 in
set_option maxRecDepth 100000 in
theorem typed_plain (pb : Nat) (s : Sch) (t : S31) (r : List S31) (n d p : Int) (w : World) (h : TokAt w pb s (t :: r) n) (d0 : 1 ≤ d) (d1 : d ≤ 8) (hp : plainP t.f1 = p) (p0 : p > 0) : Calls Try.prog 83 #[.pointer (some ⟨pb, 0, none⟩), .int .i64 d] w (fun e w' => (∃ v, e = .returned v ∧ isTy w.heap.size ⟨p, ⟨#[]⟩, []⟩ w' v) ∧ TokAt w' pb s r t.f2 ∧ Ch (fun k => k = pb) w w') := by
  have HT := Aside0.mk h
  have HP := Aside0.mk hp
  have hdd : decide (d ≤ 8) = true := decide_eq_true d1
  clear h hp
  have hpd : decide (p > 0) = true := decide_eq_true p0
  go_enter Try.func83, Try.ntmps83
  go_wp2_with (first | ((with_reducible refine gate_dst (N := 4) rfl ?_); refine box_event ?hg (N := 4) ?hd (cs := #[.int .i64 0, .string ⟨#[]⟩, .slice none 0 0]) (t := 50) ?hr ?_; (case hd => rfl); (case hg => rfl); (case hr => first | (go_simp; done) | (go_simp; rfl)); intro gb hg w2 hbox hb; have HB2 := Aside0.mk hb; have BK2 := Aside0.mk hbox; have HG := Aside0.mk hg; have HT2 := Aside0.mk (HT.out.below hb); have NE := Aside0.mk (show ¬ gb = pb from by rw [hg]; exact Nat.ne_of_gt (tok_lt HT.out)); obtain ⟨ad, m, c, hm, hk, hc, hm2, hC, hF, hy0, hy1, hy2⟩ := (HT.out.below hb).cons; have hx0 := zcell hk 0 _ rfl; have hp : (0 : Int) < ((m : Nat) : Int) := (by omega); have hq : (((m : Nat) : Int) == 0) = false := (by simp; omega); clear hm hk hC hF hy0 hy1 hy2; clear hbox hg hb))
  have HB2 := Aside0.mk (Ch.of_below HB2.out (fun k => k = pb))
  go_at_call 54
  refine (need_yes.calls 42 _).mono ?_
  rintro e wA ⟨rfl, rfl⟩
  go_wp2_with fail
  go_at_call 55
  refine (peek.calls pb s (t :: r) n _ HT2.out).mono ?_
  rintro e w3 ⟨rfl, hb⟩
  rw [show (peekP (t :: r)).f1 = t.f1 from rfl, show (peekP (t :: r)).f0 = t.f0 from rfl, show (peekP (t :: r)).f2 = t.f2 from rfl]
  have HT3 := Aside0.mk (HT2.out.below hb)
  have HB3 := Aside0.mk (HB2.out.thenB hb)
  have BK3 := Aside0.mk ((Ch.of_below hb (fun _ => False)).heap BK2.out (fun h => h))
  clear hb
  go_wp2_with fail
  go_at_call 102
  refine (plain.calls _ _).mono ?_
  rintro e w4 ⟨rfl, hb⟩
  rw [HP.out]
  have HT4 := Aside0.mk (HT3.out.below hb)
  have HB4 := Aside0.mk (HB3.out.thenB hb)
  have BK4 := Aside0.mk ((Ch.of_below hb (fun _ => False)).heap BK3.out (fun h => h))
  clear hb
  go_wp2_with fail
  go_at_call 77
  refine (take.calls pb s t r n _ HT4.out).mono ?_
  rintro e w5 ⟨rfl, ht, hc⟩
  have HT5 := Aside0.mk ht
  have HB5 := Aside0.mk (HB4.out.trans hc (fun k h => .inl h))
  have BK5 := Aside0.mk (hc.heap BK4.out NE.out)
  clear ht hc
  go_wp2_with fail
  go_at_call 102
  refine (plain.calls t.f1 _).mono ?_
  rintro e w6 ⟨rfl, hb⟩
  rw [HP.out]
  have HT6 := Aside0.mk (HT5.out.below hb)
  have HB6 := Aside0.mk (HB5.out.thenB hb)
  have BK6 := Aside0.mk ((Ch.of_below hb (fun _ => False)).heap BK5.out (fun h => h))
  clear hb
  go_wp2_with (first | ((with_reducible refine gate_store (p := 4) rfl ?_); refine store_all rfl rfl 50 _ _ rfl #[.int .i64 p, .string ⟨#[]⟩, .slice none 0 0] rfl rfl BK6.out rfl (by kernel_rfl) (by rfl) ?_; intro w7 h1 h2; have BK7 := Aside0.mk h1; have HS7 := Aside0.mk h2; clear h1 h2))
  have HT7 := Aside0.mk (TokAt.other HT6.out HS7.out NE.out BK6.out (fun i h => by cases h))
  have HB7 : Aside0 (Ch (fun k => k = pb) w w7) := ⟨HB6.out.trans HS7.out (fun k h => .inr (by rw [h, HG.out]; exact Nat.le_refl _))⟩
  refine bodyPost_ret ?_ rfl ⟨⟨_, rfl, ⟨_, rfl, Kd.R_nil _ _ _ _ _⟩⟩, HT7.out, HB7.out⟩
  exact results_single rfl (.cell gb 50 #[.int .i64 p, .string ⟨#[]⟩, .slice none 0 0] (0, 0) _ rfl BK7.out Try.underlying50 rfl (by exact (by kernel_rfl : (Try.prog.info? 50).map (·.size) = some 3)) .nil)

set_option maxHeartbeats 1000000 in
set_option maxRecDepth 100000 in
theorem typed_named_inl (pb : Nat) (s : Sch) (t : S31) (r : List S31) (n d p : Int) (w : World) (h : TokAt w pb s (t :: r) n) (d0 : 1 ≤ d) (d1 : d ≤ 8) (hp : plainP t.f1 = p) (p0 : ¬ p > 0) (hqa : (t.f1.toList == [91]) = false) (hqb : (t.f1.toList == [63]) = false) (c' : Int) (st' : St31) (ho : nameP (t :: r, n) = .inl (c', st')) : Calls Try.prog 83 #[.pointer (some ⟨pb, 0, none⟩), .int .i64 d] w (fun e w' => e = .panicked (pnc c') ∧ TokAt w' pb s st'.1 st'.2 ∧ Ch (fun k => k = pb) w w') := by
  have HT := Aside0.mk h
  have HP := Aside0.mk hp
  have hdd : decide (d ≤ 8) = true := decide_eq_true d1
  clear h hp
  have HO := Aside0.mk ho
  clear ho
  have hpd : decide (p > 0) = false := decide_eq_false p0
  go_enter Try.func83, Try.ntmps83
  go_wp2_with (first | ((with_reducible refine gate_dst (N := 4) rfl ?_); refine box_event ?hg (N := 4) ?hd (cs := #[.int .i64 0, .string ⟨#[]⟩, .slice none 0 0]) (t := 50) ?hr ?_; (case hd => rfl); (case hg => rfl); (case hr => first | (go_simp; done) | (go_simp; rfl)); intro gb hg w2 hbox hb; have HB2 := Aside0.mk hb; have BK2 := Aside0.mk hbox; have HG := Aside0.mk hg; have HT2 := Aside0.mk (HT.out.below hb); have NE := Aside0.mk (show ¬ gb = pb from by rw [hg]; exact Nat.ne_of_gt (tok_lt HT.out)); obtain ⟨ad, m, c, hm, hk, hc, hm2, hC, hF, hy0, hy1, hy2⟩ := (HT.out.below hb).cons; have hx0 := zcell hk 0 _ rfl; have hp : (0 : Int) < ((m : Nat) : Int) := (by omega); have hq : (((m : Nat) : Int) == 0) = false := (by simp; omega); clear hm hk hC hF hy0 hy1 hy2; clear hbox hg hb))
  have HB2 := Aside0.mk (Ch.of_below HB2.out (fun k => k = pb))
  go_at_call 54
  refine (need_yes.calls 42 _).mono ?_
  rintro e wA ⟨rfl, rfl⟩
  go_wp2_with fail
  go_at_call 55
  refine (peek.calls pb s (t :: r) n _ HT2.out).mono ?_
  rintro e w3 ⟨rfl, hb⟩
  rw [show (peekP (t :: r)).f1 = t.f1 from rfl, show (peekP (t :: r)).f0 = t.f0 from rfl, show (peekP (t :: r)).f2 = t.f2 from rfl]
  have HT3 := Aside0.mk (HT2.out.below hb)
  have HB3 := Aside0.mk (HB2.out.thenB hb)
  have BK3 := Aside0.mk ((Ch.of_below hb (fun _ => False)).heap BK2.out (fun h => h))
  clear hb
  go_wp2_with fail
  go_at_call 102
  refine (plain.calls _ _).mono ?_
  rintro e w4 ⟨rfl, hb⟩
  rw [HP.out]
  have HT4 := Aside0.mk (HT3.out.below hb)
  have HB4 := Aside0.mk (HB3.out.thenB hb)
  have BK4 := Aside0.mk ((Ch.of_below hb (fun _ => False)).heap BK3.out (fun h => h))
  clear hb
  go_wp2_with fail
  go_at_call 78
  refine (name.calls pb s (t :: r, n) _ HT4.out).mono ?_
  rw [HO.out]
  rintro e w5 ⟨rfl, ht, hc⟩
  have HT5 := Aside0.mk ht
  have HC5 := Aside0.mk (HB4.out.trans hc (fun k h => .inl h))
  clear ht hc
  go_wp2_with fail
  exact ⟨rfl, rfl, HT5.out, HC5.out⟩
set_option maxHeartbeats 1000000 in
set_option maxRecDepth 100000 in
theorem typed_named_inr (pb : Nat) (s : Sch) (t : S31) (r : List S31) (n d p : Int) (w : World) (h : TokAt w pb s (t :: r) n) (d0 : 1 ≤ d) (d1 : d ≤ 8) (hp : plainP t.f1 = p) (p0 : ¬ p > 0) (hqa : (t.f1.toList == [91]) = false) (hqb : (t.f1.toList == [63]) = false) (a : ByteArray) (st' : St31) (ho : nameP (t :: r, n) = .inr (a, st')) : Calls Try.prog 83 #[.pointer (some ⟨pb, 0, none⟩), .int .i64 d] w (fun e w' => (∃ v, e = .returned v ∧ isTy w.heap.size ⟨8, a, []⟩ w' v) ∧ TokAt w' pb s st'.1 st'.2 ∧ Ch (fun k => k = pb) w w') := by
  have HT := Aside0.mk h
  have HP := Aside0.mk hp
  have hdd : decide (d ≤ 8) = true := decide_eq_true d1
  clear h hp
  have HO := Aside0.mk ho
  clear ho
  have hpd : decide (p > 0) = false := decide_eq_false p0
  go_enter Try.func83, Try.ntmps83
  go_wp2_with (first | ((with_reducible refine gate_dst (N := 4) rfl ?_); refine box_event ?hg (N := 4) ?hd (cs := #[.int .i64 0, .string ⟨#[]⟩, .slice none 0 0]) (t := 50) ?hr ?_; (case hd => rfl); (case hg => rfl); (case hr => first | (go_simp; done) | (go_simp; rfl)); intro gb hg w2 hbox hb; have HB2 := Aside0.mk hb; have BK2 := Aside0.mk hbox; have HG := Aside0.mk hg; have HT2 := Aside0.mk (HT.out.below hb); have NE := Aside0.mk (show ¬ gb = pb from by rw [hg]; exact Nat.ne_of_gt (tok_lt HT.out)); obtain ⟨ad, m, c, hm, hk, hc, hm2, hC, hF, hy0, hy1, hy2⟩ := (HT.out.below hb).cons; have hx0 := zcell hk 0 _ rfl; have hp : (0 : Int) < ((m : Nat) : Int) := (by omega); have hq : (((m : Nat) : Int) == 0) = false := (by simp; omega); clear hm hk hC hF hy0 hy1 hy2; clear hbox hg hb))
  have HB2 := Aside0.mk (Ch.of_below HB2.out (fun k => k = pb))
  go_at_call 54
  refine (need_yes.calls 42 _).mono ?_
  rintro e wA ⟨rfl, rfl⟩
  go_wp2_with fail
  go_at_call 55
  refine (peek.calls pb s (t :: r) n _ HT2.out).mono ?_
  rintro e w3 ⟨rfl, hb⟩
  rw [show (peekP (t :: r)).f1 = t.f1 from rfl, show (peekP (t :: r)).f0 = t.f0 from rfl, show (peekP (t :: r)).f2 = t.f2 from rfl]
  have HT3 := Aside0.mk (HT2.out.below hb)
  have HB3 := Aside0.mk (HB2.out.thenB hb)
  have BK3 := Aside0.mk ((Ch.of_below hb (fun _ => False)).heap BK2.out (fun h => h))
  clear hb
  go_wp2_with fail
  go_at_call 102
  refine (plain.calls _ _).mono ?_
  rintro e w4 ⟨rfl, hb⟩
  rw [HP.out]
  have HT4 := Aside0.mk (HT3.out.below hb)
  have HB4 := Aside0.mk (HB3.out.thenB hb)
  have BK4 := Aside0.mk ((Ch.of_below hb (fun _ => False)).heap BK3.out (fun h => h))
  clear hb
  go_wp2_with fail
  go_at_call 78
  refine (name.calls pb s (t :: r, n) _ HT4.out).mono ?_
  rw [HO.out]
  rintro e w6 ⟨⟨v, rfl, rfl⟩, ht, hc⟩
  have HT6 := Aside0.mk ht
  have HB6 := Aside0.mk (HB4.out.trans hc (fun k h => .inl h))
  have BK6 := Aside0.mk (hc.heap BK4.out NE.out)
  clear ht hc
  go_wp2_with (first | ((with_reducible refine gate_store (p := 4) rfl ?_); refine store_all rfl rfl 50 _ _ rfl #[.int .i64 8, .string a, .slice none 0 0] rfl rfl BK6.out rfl (by kernel_rfl) (by rfl) ?_; intro w7 h1 h2; have BK7 := Aside0.mk h1; have HS7 := Aside0.mk h2; clear h1 h2))
  have HT7 := Aside0.mk (TokAt.other HT6.out HS7.out NE.out BK6.out (fun i h => by cases h))
  have HB7 : Aside0 (Ch (fun k => k = pb) w w7) := ⟨HB6.out.trans HS7.out (fun k h => .inr (by rw [h, HG.out]; exact Nat.le_refl _))⟩
  refine bodyPost_ret ?_ rfl ⟨⟨_, rfl, ⟨_, rfl, Kd.R_nil _ _ _ _ _⟩⟩, HT7.out, HB7.out⟩
  exact results_single rfl (.cell gb 50 #[.int .i64 8, .string a, .slice none 0 0] (0, 0) _ rfl BK7.out Try.underlying50 rfl (by exact (by kernel_rfl : (Try.prog.info? 50).map (·.size) = some 3)) .nil)
theorem R_past {W W1 : World} {b g : Nat} {v : Value} {xs : List S50} (h : Kd.R k50 50 W b (fun _ => True) v xs) (hc : Ch (fun k => k = g) W W1) (hg : g < b) : Kd.R k50 50 W1 b (fun _ => True) v xs :=
  Kd.R_mono (R_ch (Kd.R_mono (ok' := fun k => b ≤ k) (Kd.R_bound h) (fun k hk => hk.2.1)) hc (fun k hk e => by omega)) (fun _ _ => trivial)
theorem reps_single {α : Type} {R : α → List Value → Prop} {size : Nat} {p : α} {cs : List Value} (hs : cs.length = size) (hp : R p cs) : Reps R size [p] cs := by
  refine ⟨by simp [hs], fun j q hj => ?_⟩
  have h0 : j = 0 := by
    have := (List.getElem?_eq_some_iff.1 hj).1
    simp at this; omega
  subst h0
  have : q = p := by simpa using hj.symm
  subst this
  rw [Nat.zero_mul, List.drop_zero, List.take_of_length_le (by omega)]
  exact hp
theorem below_none {W W1 : World} (h : W.grownBy W1 none) : Below W.heap.size W W1 := ⟨h.os, h.tape, h.output, h.size, fun k hk => h.block k hk (by simp)⟩
set_option maxHeartbeats 1000000 in
set_option maxRecDepth 100000 in
theorem typed_opt_inl (pb : Nat) (s : Sch) (t : S31) (r : List S31) (n d p : Int) (w : World) (h : TokAt w pb s (t :: r) n) (d0 : 1 ≤ d) (d1 : d ≤ 8) (hp : plainP t.f1 = p) (p0 : ¬ p > 0) (hqa : (t.f1.toList == [91]) = false) (hqb : (t.f1.toList == [63]) = true) (o : Out S50) (IH : ∀ w : World, TokAt w pb s r t.f2 → Calls Try.prog 83 #[.pointer (some ⟨pb, 0, none⟩), .int .i64 (d + 1)] w (Ends w pb s (isTy w.heap.size) o)) (c' : Int) (st' : St31) (ho : o = .inl (c', st')) : Calls Try.prog 83 #[.pointer (some ⟨pb, 0, none⟩), .int .i64 d] w (fun e w' => e = .panicked (pnc c') ∧ TokAt w' pb s st'.1 st'.2 ∧ Ch (fun k => k = pb) w w') := by
  have HT := Aside0.mk h
  have HP := Aside0.mk hp
  have hdd : decide (d ≤ 8) = true := decide_eq_true d1
  clear h hp
  subst ho
  have hpd : decide (p > 0) = false := decide_eq_false p0
  go_enter Try.func83, Try.ntmps83
  go_wp2_with (first | ((with_reducible refine gate_dst (N := 4) rfl ?_); refine box_event ?hg (N := 4) ?hd (cs := #[.int .i64 0, .string ⟨#[]⟩, .slice none 0 0]) (t := 50) ?hr ?_; (case hd => rfl); (case hg => rfl); (case hr => first | (go_simp; done) | (go_simp; rfl)); intro gb hg w2 hbox hb; have HB2 := Aside0.mk hb; have BK2 := Aside0.mk hbox; have HG := Aside0.mk hg; have HT2 := Aside0.mk (HT.out.below hb); have NE := Aside0.mk (show ¬ gb = pb from by rw [hg]; exact Nat.ne_of_gt (tok_lt HT.out)); obtain ⟨ad, m, c, hm, hk, hc, hm2, hC, hF, hy0, hy1, hy2⟩ := (HT.out.below hb).cons; have hx0 := zcell hk 0 _ rfl; have hp : (0 : Int) < ((m : Nat) : Int) := (by omega); have hq : (((m : Nat) : Int) == 0) = false := (by simp; omega); clear hm hk hC hF hy0 hy1 hy2; clear hbox hg hb))
  have HB2 := Aside0.mk (Ch.of_below HB2.out (fun k => k = pb))
  go_at_call 54
  refine (need_yes.calls 42 _).mono ?_
  rintro e wA ⟨rfl, rfl⟩
  go_wp2_with fail
  go_at_call 55
  refine (peek.calls pb s (t :: r) n _ HT2.out).mono ?_
  rintro e w3 ⟨rfl, hb⟩
  rw [show (peekP (t :: r)).f1 = t.f1 from rfl, show (peekP (t :: r)).f0 = t.f0 from rfl, show (peekP (t :: r)).f2 = t.f2 from rfl]
  have HT3 := Aside0.mk (HT2.out.below hb)
  have HB3 := Aside0.mk (HB2.out.thenB hb)
  have BK3 := Aside0.mk ((Ch.of_below hb (fun _ => False)).heap BK2.out (fun h => h))
  clear hb
  go_wp2_with fail
  go_at_call 102
  refine (plain.calls _ _).mono ?_
  rintro e w4 ⟨rfl, hb⟩
  rw [HP.out]
  have HT4 := Aside0.mk (HT3.out.below hb)
  have HB4 := Aside0.mk (HB3.out.thenB hb)
  have BK4 := Aside0.mk ((Ch.of_below hb (fun _ => False)).heap BK3.out (fun h => h))
  clear hb
  go_wp2_with fail
  go_at_call 77
  refine (take.calls pb s t r n _ HT4.out).mono ?_
  rintro e w5 ⟨rfl, ht, hc⟩
  have HT5 := Aside0.mk ht
  have HB5 := Aside0.mk (HB4.out.trans hc (fun k h => .inl h))
  have BK5 := Aside0.mk (hc.heap BK4.out NE.out)
  clear ht hc
  go_wp2_with fail
  go_at_call 83
  refine (IH _ HT5.out).mono ?_
  rintro e w6 ⟨rfl, ht, hc⟩
  have HT6 := Aside0.mk ht
  have HC6 := Aside0.mk (HB5.out.trans hc (fun k h => .inl h))
  clear ht hc
  go_wp2_with fail
  exact ⟨rfl, rfl, HT6.out, HC6.out⟩
set_option maxHeartbeats 1000000 in
set_option maxRecDepth 100000 in
theorem typed_opt_inr (pb : Nat) (s : Sch) (t : S31) (r : List S31) (n d p : Int) (w : World) (h : TokAt w pb s (t :: r) n) (d0 : 1 ≤ d) (d1 : d ≤ 8) (hp : plainP t.f1 = p) (p0 : ¬ p > 0) (hqa : (t.f1.toList == [91]) = false) (hqb : (t.f1.toList == [63]) = true) (o : Out S50) (IH : ∀ w : World, TokAt w pb s r t.f2 → Calls Try.prog 83 #[.pointer (some ⟨pb, 0, none⟩), .int .i64 (d + 1)] w (Ends w pb s (isTy w.heap.size) o)) (x : S50) (st' : St31) (ho : o = .inr (x, st')) : Calls Try.prog 83 #[.pointer (some ⟨pb, 0, none⟩), .int .i64 d] w (fun e w' => (∃ v, e = .returned v ∧ isTy w.heap.size ⟨7, ⟨#[]⟩, [x]⟩ w' v) ∧ TokAt w' pb s st'.1 st'.2 ∧ Ch (fun k => k = pb) w w') := by
  have HT := Aside0.mk h
  have HP := Aside0.mk hp
  have hdd : decide (d ≤ 8) = true := decide_eq_true d1
  clear h hp
  subst ho
  have hpd : decide (p > 0) = false := decide_eq_false p0
  go_enter Try.func83, Try.ntmps83
  go_wp2_with (first | ((with_reducible refine gate_dst (N := 4) rfl ?_); refine box_event ?hg (N := 4) ?hd (cs := #[.int .i64 0, .string ⟨#[]⟩, .slice none 0 0]) (t := 50) ?hr ?_; (case hd => rfl); (case hg => rfl); (case hr => first | (go_simp; done) | (go_simp; rfl)); intro gb hg w2 hbox hb; have HB2 := Aside0.mk hb; have BK2 := Aside0.mk hbox; have HG := Aside0.mk hg; have HT2 := Aside0.mk (HT.out.below hb); have NE := Aside0.mk (show ¬ gb = pb from by rw [hg]; exact Nat.ne_of_gt (tok_lt HT.out)); obtain ⟨ad, m, c, hm, hk, hc, hm2, hC, hF, hy0, hy1, hy2⟩ := (HT.out.below hb).cons; have hx0 := zcell hk 0 _ rfl; have hp : (0 : Int) < ((m : Nat) : Int) := (by omega); have hq : (((m : Nat) : Int) == 0) = false := (by simp; omega); clear hm hk hC hF hy0 hy1 hy2; clear hbox hg hb))
  have HB2 := Aside0.mk (Ch.of_below HB2.out (fun k => k = pb))
  go_at_call 54
  refine (need_yes.calls 42 _).mono ?_
  rintro e wA ⟨rfl, rfl⟩
  go_wp2_with fail
  go_at_call 55
  refine (peek.calls pb s (t :: r) n _ HT2.out).mono ?_
  rintro e w3 ⟨rfl, hb⟩
  rw [show (peekP (t :: r)).f1 = t.f1 from rfl, show (peekP (t :: r)).f0 = t.f0 from rfl, show (peekP (t :: r)).f2 = t.f2 from rfl]
  have HT3 := Aside0.mk (HT2.out.below hb)
  have HB3 := Aside0.mk (HB2.out.thenB hb)
  have BK3 := Aside0.mk ((Ch.of_below hb (fun _ => False)).heap BK2.out (fun h => h))
  clear hb
  go_wp2_with fail
  go_at_call 102
  refine (plain.calls _ _).mono ?_
  rintro e w4 ⟨rfl, hb⟩
  rw [HP.out]
  have HT4 := Aside0.mk (HT3.out.below hb)
  have HB4 := Aside0.mk (HB3.out.thenB hb)
  have BK4 := Aside0.mk ((Ch.of_below hb (fun _ => False)).heap BK3.out (fun h => h))
  clear hb
  go_wp2_with fail
  go_at_call 77
  refine (take.calls pb s t r n _ HT4.out).mono ?_
  rintro e w5 ⟨rfl, ht, hc⟩
  have HT5 := Aside0.mk ht
  have HB5 := Aside0.mk (HB4.out.trans hc (fun k h => .inl h))
  have BK5 := Aside0.mk (hc.heap BK4.out NE.out)
  clear ht hc
  go_wp2_with fail
  go_at_call 83
  refine (IH _ HT5.out).mono ?_
  rintro e w6 ⟨⟨v, rfl, ⟨v2, rfl, hr⟩⟩, ht, hc⟩
  obtain ⟨A2, c2, rfl⟩ := Kd.R_slice hr
  have HT6 := Aside0.mk ht
  have HB6 := Aside0.mk (HB5.out.trans hc (fun k h => .inl h))
  have BK6 := Aside0.mk (hc.heap BK5.out NE.out)
  have HMX := Aside0.mk (k50_mkM w6 w5.heap.size (fun _ => True) x hr)
  have HBS : Aside0 (w5.heap.size ≤ w6.heap.size) := ⟨hc.size⟩
  have HGL : Aside0 (gb < w5.heap.size) := ⟨lt_of_block BK5.out⟩
  have HWL : Aside0 (w.heap.size ≤ w5.heap.size) := ⟨HB5.out.size⟩
  clear ht hc hr
  go_wp2_with (first | ((with_reducible refine gate_dst (N := 53) rfl ?_); refine Kd.R_lit k50 (w0 := w6) w5.heap.size 50 ?hg (N := 53) ?hd (xs := [x]) (inner := [.int .i64 x.f0, .string x.f1, .slice A2 x.f2.length c2]) (ok := fun _ => True) (okp := fun _ => True) ?hr ?hp (fun _ hk => hk) trivial (Below.refl _ _) HBS.out (by simp) ?_; (case hd => rfl); (case hg => rfl); (case hr => first | (go_simp; done) | (go_simp; rfl)); (case hp => exact reps_single rfl HMX.out); intro v7 w7 hr7 hb7 hg7 hn7; obtain ⟨A7, c7, rfl⟩ := Kd.R_slice hr7; have HR7 := Aside0.mk hr7; have HB7 := Aside0.mk (HB6.out.thenB (below_none hg7)); have HT7 := Aside0.mk (HT6.out.below (below_none hg7)); have BK7 := Aside0.mk ((Ch.of_below (below_none hg7) (fun _ => False)).heap BK6.out (fun h => h)); clear hr7 hb7 hg7 hn7) | ((with_reducible refine gate_store (p := 4) rfl ?_); refine store_all rfl rfl 50 _ _ rfl #[.int .i64 7, .string ⟨#[]⟩, .slice A7 [x].length c7] rfl rfl BK7.out rfl (by kernel_rfl) (by rfl) ?_; intro w8 h1 h2; have BK8 := Aside0.mk h1; have HS8 := Aside0.mk h2; clear h1 h2))
  have HT8 := Aside0.mk (TokAt.other HT7.out HS8.out NE.out BK7.out (fun i h => by cases h))
  have HB8 : Aside0 (Ch (fun k => k = pb) w w8) := ⟨HB7.out.trans HS8.out (fun k h => .inr (by rw [h, HG.out]; exact Nat.le_refl _))⟩
  refine bodyPost_ret ?_ rfl ⟨⟨_, rfl, ⟨_, rfl, Kd.R_lower (R_past HR7.out HS8.out HGL.out) HWL.out⟩⟩, HT8.out, HB8.out⟩
  exact results_single rfl (.cell gb 50 #[.int .i64 7, .string ⟨#[]⟩, .slice A7 [x].length c7] (0, 0) _ rfl BK8.out Try.underlying50 rfl (by exact (by kernel_rfl : (Try.prog.info? 50).map (·.size) = some 3)) .nil)
set_option maxHeartbeats 1000000 in
set_option maxRecDepth 100000 in
theorem typed_list_inl (pb : Nat) (s : Sch) (t : S31) (r : List S31) (n d p : Int) (w : World) (h : TokAt w pb s (t :: r) n) (d0 : 1 ≤ d) (d1 : d ≤ 8) (hp : plainP t.f1 = p) (p0 : ¬ p > 0) (hqa : (t.f1.toList == [91]) = true) (o : Out S50) (IH : ∀ w : World, TokAt w pb s r t.f2 → Calls Try.prog 83 #[.pointer (some ⟨pb, 0, none⟩), .int .i64 (d + 1)] w (Ends w pb s (isTy w.heap.size) o)) (c' : Int) (st' : St31) (ho : o = .inl (c', st')) : Calls Try.prog 83 #[.pointer (some ⟨pb, 0, none⟩), .int .i64 d] w (fun e w' => e = .panicked (pnc c') ∧ TokAt w' pb s st'.1 st'.2 ∧ Ch (fun k => k = pb) w w') := by
  have HT := Aside0.mk h
  have HP := Aside0.mk hp
  have hdd : decide (d ≤ 8) = true := decide_eq_true d1
  clear h hp
  subst ho
  have hpd : decide (p > 0) = false := decide_eq_false p0
  go_enter Try.func83, Try.ntmps83
  go_wp2_with (first | ((with_reducible refine gate_dst (N := 4) rfl ?_); refine box_event ?hg (N := 4) ?hd (cs := #[.int .i64 0, .string ⟨#[]⟩, .slice none 0 0]) (t := 50) ?hr ?_; (case hd => rfl); (case hg => rfl); (case hr => first | (go_simp; done) | (go_simp; rfl)); intro gb hg w2 hbox hb; have HB2 := Aside0.mk hb; have BK2 := Aside0.mk hbox; have HG := Aside0.mk hg; have HT2 := Aside0.mk (HT.out.below hb); have NE := Aside0.mk (show ¬ gb = pb from by rw [hg]; exact Nat.ne_of_gt (tok_lt HT.out)); obtain ⟨ad, m, c, hm, hk, hc, hm2, hC, hF, hy0, hy1, hy2⟩ := (HT.out.below hb).cons; have hx0 := zcell hk 0 _ rfl; have hp : (0 : Int) < ((m : Nat) : Int) := (by omega); have hq : (((m : Nat) : Int) == 0) = false := (by simp; omega); clear hm hk hC hF hy0 hy1 hy2; clear hbox hg hb))
  have HB2 := Aside0.mk (Ch.of_below HB2.out (fun k => k = pb))
  go_at_call 54
  refine (need_yes.calls 42 _).mono ?_
  rintro e wA ⟨rfl, rfl⟩
  go_wp2_with fail
  go_at_call 55
  refine (peek.calls pb s (t :: r) n _ HT2.out).mono ?_
  rintro e w3 ⟨rfl, hb⟩
  rw [show (peekP (t :: r)).f1 = t.f1 from rfl, show (peekP (t :: r)).f0 = t.f0 from rfl, show (peekP (t :: r)).f2 = t.f2 from rfl]
  have HT3 := Aside0.mk (HT2.out.below hb)
  have HB3 := Aside0.mk (HB2.out.thenB hb)
  have BK3 := Aside0.mk ((Ch.of_below hb (fun _ => False)).heap BK2.out (fun h => h))
  clear hb
  go_wp2_with fail
  go_at_call 102
  refine (plain.calls _ _).mono ?_
  rintro e w4 ⟨rfl, hb⟩
  rw [HP.out]
  have HT4 := Aside0.mk (HT3.out.below hb)
  have HB4 := Aside0.mk (HB3.out.thenB hb)
  have BK4 := Aside0.mk ((Ch.of_below hb (fun _ => False)).heap BK3.out (fun h => h))
  clear hb
  go_wp2_with fail
  go_at_call 77
  refine (take.calls pb s t r n _ HT4.out).mono ?_
  rintro e w5 ⟨rfl, ht, hc⟩
  have HT5 := Aside0.mk ht
  have HB5 := Aside0.mk (HB4.out.trans hc (fun k h => .inl h))
  have BK5 := Aside0.mk (hc.heap BK4.out NE.out)
  clear ht hc
  go_wp2_with fail
  go_at_call 83
  refine (IH _ HT5.out).mono ?_
  rintro e w6 ⟨rfl, ht, hc⟩
  have HT6 := Aside0.mk ht
  have HC6 := Aside0.mk (HB5.out.trans hc (fun k h => .inl h))
  clear ht hc
  go_wp2_with fail
  exact ⟨rfl, rfl, HT6.out, HC6.out⟩
set_option maxHeartbeats 1000000 in
set_option maxRecDepth 100000 in
theorem typed_list_bad (pb : Nat) (s : Sch) (t : S31) (r : List S31) (n d p : Int) (w : World) (h : TokAt w pb s (t :: r) n) (d0 : 1 ≤ d) (d1 : d ≤ 8) (hp : plainP t.f1 = p) (p0 : ¬ p > 0) (hqa : (t.f1.toList == [91]) = true) (o : Out S50) (IH : ∀ w : World, TokAt w pb s r t.f2 → Calls Try.prog 83 #[.pointer (some ⟨pb, 0, none⟩), .int .i64 (d + 1)] w (Ends w pb s (isTy w.heap.size) o)) (x : S50) (st2 : St31) (ho : o = .inr (x, st2)) (c' : Int) (st' : St31) (ho2 : signP tRB st2 = .inl (c', st')) : Calls Try.prog 83 #[.pointer (some ⟨pb, 0, none⟩), .int .i64 d] w (fun e w' => e = .panicked (pnc c') ∧ TokAt w' pb s st'.1 st'.2 ∧ Ch (fun k => k = pb) w w') := by
  have HT := Aside0.mk h
  have HP := Aside0.mk hp
  have hdd : decide (d ≤ 8) = true := decide_eq_true d1
  clear h hp
  subst ho
  have HO2 := Aside0.mk ho2
  clear ho2
  have hpd : decide (p > 0) = false := decide_eq_false p0
  go_enter Try.func83, Try.ntmps83
  go_wp2_with (first | ((with_reducible refine gate_dst (N := 4) rfl ?_); refine box_event ?hg (N := 4) ?hd (cs := #[.int .i64 0, .string ⟨#[]⟩, .slice none 0 0]) (t := 50) ?hr ?_; (case hd => rfl); (case hg => rfl); (case hr => first | (go_simp; done) | (go_simp; rfl)); intro gb hg w2 hbox hb; have HB2 := Aside0.mk hb; have BK2 := Aside0.mk hbox; have HG := Aside0.mk hg; have HT2 := Aside0.mk (HT.out.below hb); have NE := Aside0.mk (show ¬ gb = pb from by rw [hg]; exact Nat.ne_of_gt (tok_lt HT.out)); obtain ⟨ad, m, c, hm, hk, hc, hm2, hC, hF, hy0, hy1, hy2⟩ := (HT.out.below hb).cons; have hx0 := zcell hk 0 _ rfl; have hp : (0 : Int) < ((m : Nat) : Int) := (by omega); have hq : (((m : Nat) : Int) == 0) = false := (by simp; omega); clear hm hk hC hF hy0 hy1 hy2; clear hbox hg hb))
  have HB2 := Aside0.mk (Ch.of_below HB2.out (fun k => k = pb))
  go_at_call 54
  refine (need_yes.calls 42 _).mono ?_
  rintro e wA ⟨rfl, rfl⟩
  go_wp2_with fail
  go_at_call 55
  refine (peek.calls pb s (t :: r) n _ HT2.out).mono ?_
  rintro e w3 ⟨rfl, hb⟩
  rw [show (peekP (t :: r)).f1 = t.f1 from rfl, show (peekP (t :: r)).f0 = t.f0 from rfl, show (peekP (t :: r)).f2 = t.f2 from rfl]
  have HT3 := Aside0.mk (HT2.out.below hb)
  have HB3 := Aside0.mk (HB2.out.thenB hb)
  have BK3 := Aside0.mk ((Ch.of_below hb (fun _ => False)).heap BK2.out (fun h => h))
  clear hb
  go_wp2_with fail
  go_at_call 102
  refine (plain.calls _ _).mono ?_
  rintro e w4 ⟨rfl, hb⟩
  rw [HP.out]
  have HT4 := Aside0.mk (HT3.out.below hb)
  have HB4 := Aside0.mk (HB3.out.thenB hb)
  have BK4 := Aside0.mk ((Ch.of_below hb (fun _ => False)).heap BK3.out (fun h => h))
  clear hb
  go_wp2_with fail
  go_at_call 77
  refine (take.calls pb s t r n _ HT4.out).mono ?_
  rintro e w5 ⟨rfl, ht, hc⟩
  have HT5 := Aside0.mk ht
  have HB5 := Aside0.mk (HB4.out.trans hc (fun k h => .inl h))
  have BK5 := Aside0.mk (hc.heap BK4.out NE.out)
  clear ht hc
  go_wp2_with fail
  go_at_call 83
  refine (IH _ HT5.out).mono ?_
  rintro e w6 ⟨⟨v, rfl, ⟨v2, rfl, hr⟩⟩, ht, hc⟩
  obtain ⟨A2, c2, rfl⟩ := Kd.R_slice hr
  have HT6 := Aside0.mk ht
  have HB6 := Aside0.mk (HB5.out.trans hc (fun k h => .inl h))
  have BK6 := Aside0.mk (hc.heap BK5.out NE.out)
  have HR6 := Aside0.mk (Kd.R_mono (ok' := fun k => w5.heap.size ≤ k ∧ k < w6.heap.size) (Kd.R_bound hr) (fun k hk => ⟨hk.2.1, hk.2.2.1⟩))
  have HGL : Aside0 (gb < w5.heap.size) := ⟨lt_of_block BK5.out⟩
  have HWL : Aside0 (w.heap.size ≤ w5.heap.size) := ⟨HB5.out.size⟩
  have HPL : Aside0 (pb < w5.heap.size) := ⟨tok_lt HT5.out⟩
  have HS56 : Aside0 (w5.heap.size ≤ w6.heap.size) := ⟨hc.size⟩
  clear ht hc hr
  go_wp2_with (first | ((with_reducible refine gate_dst (N := 6) rfl ?_); refine box_event ?hg (N := 6) ?hd (cs := #[.int .i64 0, .string ⟨#[]⟩, .slice none 0 0]) (t := 50) ?hr ?_; (case hd => rfl); (case hg => rfl); (case hr => first | (go_simp; done) | (go_simp; rfl)); intro gc hg w7 hbox hb; have HGC := Aside0.mk hg; have CK7 := Aside0.mk hbox; have HT7 := Aside0.mk (HT6.out.below hb); have HB7 := Aside0.mk (HB6.out.thenB hb); have BK7 := Aside0.mk ((Ch.of_below hb (fun _ => False)).heap BK6.out (fun h => h)); have HR7 := Aside0.mk (R_ch HR6.out (Ch.of_below hb (fun _ => False)) (fun _ _ h => h)); have HPC := Aside0.mk (show ¬ gc = pb from by have := tok_lt HT6.out; omega); have HBC := Aside0.mk (show ¬ gb = gc from by have := lt_of_block BK6.out; omega); clear hg hbox hb) | ((with_reducible refine gate_store (p := 6) rfl ?_); refine store_all rfl rfl 50 _ _ rfl #[.int .i64 x.f0, .string x.f1, .slice A2 x.f2.length c2] rfl rfl CK7.out rfl (by kernel_rfl) (by rfl) ?_; intro w8 h1 h2; have CK8 := Aside0.mk h1; have HT8 := Aside0.mk (TokAt.other HT7.out h2 HPC.out CK7.out (fun i h => by cases h)); have HB8 := Aside0.mk (HB7.out.trans h2 (fun k h => .inr (by have := HB6.out.size; have := HGC.out; omega))); have BK8 := Aside0.mk (h2.heap BK7.out HBC.out); have HR8 := Aside0.mk (R_ch HR7.out h2 (fun k hk e => by have := HGC.out; omega)); clear h1 h2))
  go_at_call 79
  refine (sign.calls pb s tRB st2 _ w8.heap.size (HT8.out.below (below_alloc (Below.refl _ _) _)) (heap_alloc_new w8 _) (by have := tok_lt HT8.out; omega)).mono ?_
  rw [HO2.out]
  rintro e w9 ⟨rfl, ht, hc⟩
  have HT9 := Aside0.mk ht
  have HB9 := Aside0.mk ((HB8.out.alloc _).trans hc (fun k h => .inl h))
  clear ht hc
  go_wp2_with fail
  exact ⟨rfl, rfl, HT9.out, HB9.out⟩
set_option maxHeartbeats 1000000 in
set_option maxRecDepth 100000 in
theorem typed_list_inr (pb : Nat) (s : Sch) (t : S31) (r : List S31) (n d p : Int) (w : World) (h : TokAt w pb s (t :: r) n) (d0 : 1 ≤ d) (d1 : d ≤ 8) (hp : plainP t.f1 = p) (p0 : ¬ p > 0) (hqa : (t.f1.toList == [91]) = true) (o : Out S50) (IH : ∀ w : World, TokAt w pb s r t.f2 → Calls Try.prog 83 #[.pointer (some ⟨pb, 0, none⟩), .int .i64 (d + 1)] w (Ends w pb s (isTy w.heap.size) o)) (x : S50) (st2 : St31) (ho : o = .inr (x, st2)) (q : ByteArray) (st' : St31) (ho2 : signP tRB st2 = .inr (q, st')) : Calls Try.prog 83 #[.pointer (some ⟨pb, 0, none⟩), .int .i64 d] w (fun e w' => (∃ v, e = .returned v ∧ isTy w.heap.size ⟨6, ⟨#[]⟩, [x]⟩ w' v) ∧ TokAt w' pb s st'.1 st'.2 ∧ Ch (fun k => k = pb) w w') := by
  have HT := Aside0.mk h
  have HP := Aside0.mk hp
  have hdd : decide (d ≤ 8) = true := decide_eq_true d1
  clear h hp
  subst ho
  have HO2 := Aside0.mk ho2
  clear ho2
  have hpd : decide (p > 0) = false := decide_eq_false p0
  go_enter Try.func83, Try.ntmps83
  go_wp2_with (first | ((with_reducible refine gate_dst (N := 4) rfl ?_); refine box_event ?hg (N := 4) ?hd (cs := #[.int .i64 0, .string ⟨#[]⟩, .slice none 0 0]) (t := 50) ?hr ?_; (case hd => rfl); (case hg => rfl); (case hr => first | (go_simp; done) | (go_simp; rfl)); intro gb hg w2 hbox hb; have HB2 := Aside0.mk hb; have BK2 := Aside0.mk hbox; have HG := Aside0.mk hg; have HT2 := Aside0.mk (HT.out.below hb); have NE := Aside0.mk (show ¬ gb = pb from by rw [hg]; exact Nat.ne_of_gt (tok_lt HT.out)); obtain ⟨ad, m, c, hm, hk, hc, hm2, hC, hF, hy0, hy1, hy2⟩ := (HT.out.below hb).cons; have hx0 := zcell hk 0 _ rfl; have hp : (0 : Int) < ((m : Nat) : Int) := (by omega); have hq : (((m : Nat) : Int) == 0) = false := (by simp; omega); clear hm hk hC hF hy0 hy1 hy2; clear hbox hg hb))
  have HB2 := Aside0.mk (Ch.of_below HB2.out (fun k => k = pb))
  go_at_call 54
  refine (need_yes.calls 42 _).mono ?_
  rintro e wA ⟨rfl, rfl⟩
  go_wp2_with fail
  go_at_call 55
  refine (peek.calls pb s (t :: r) n _ HT2.out).mono ?_
  rintro e w3 ⟨rfl, hb⟩
  rw [show (peekP (t :: r)).f1 = t.f1 from rfl, show (peekP (t :: r)).f0 = t.f0 from rfl, show (peekP (t :: r)).f2 = t.f2 from rfl]
  have HT3 := Aside0.mk (HT2.out.below hb)
  have HB3 := Aside0.mk (HB2.out.thenB hb)
  have BK3 := Aside0.mk ((Ch.of_below hb (fun _ => False)).heap BK2.out (fun h => h))
  clear hb
  go_wp2_with fail
  go_at_call 102
  refine (plain.calls _ _).mono ?_
  rintro e w4 ⟨rfl, hb⟩
  rw [HP.out]
  have HT4 := Aside0.mk (HT3.out.below hb)
  have HB4 := Aside0.mk (HB3.out.thenB hb)
  have BK4 := Aside0.mk ((Ch.of_below hb (fun _ => False)).heap BK3.out (fun h => h))
  clear hb
  go_wp2_with fail
  go_at_call 77
  refine (take.calls pb s t r n _ HT4.out).mono ?_
  rintro e w5 ⟨rfl, ht, hc⟩
  have HT5 := Aside0.mk ht
  have HB5 := Aside0.mk (HB4.out.trans hc (fun k h => .inl h))
  have BK5 := Aside0.mk (hc.heap BK4.out NE.out)
  clear ht hc
  go_wp2_with fail
  go_at_call 83
  refine (IH _ HT5.out).mono ?_
  rintro e w6 ⟨⟨v, rfl, ⟨v2, rfl, hr⟩⟩, ht, hc⟩
  obtain ⟨A2, c2, rfl⟩ := Kd.R_slice hr
  have HT6 := Aside0.mk ht
  have HB6 := Aside0.mk (HB5.out.trans hc (fun k h => .inl h))
  have BK6 := Aside0.mk (hc.heap BK5.out NE.out)
  have HR6 := Aside0.mk (Kd.R_mono (ok' := fun k => w5.heap.size ≤ k ∧ k < w6.heap.size) (Kd.R_bound hr) (fun k hk => ⟨hk.2.1, hk.2.2.1⟩))
  have HGL : Aside0 (gb < w5.heap.size) := ⟨lt_of_block BK5.out⟩
  have HWL : Aside0 (w.heap.size ≤ w5.heap.size) := ⟨HB5.out.size⟩
  have HPL : Aside0 (pb < w5.heap.size) := ⟨tok_lt HT5.out⟩
  have HS56 : Aside0 (w5.heap.size ≤ w6.heap.size) := ⟨hc.size⟩
  clear ht hc hr
  go_wp2_with (first | ((with_reducible refine gate_dst (N := 6) rfl ?_); refine box_event ?hg (N := 6) ?hd (cs := #[.int .i64 0, .string ⟨#[]⟩, .slice none 0 0]) (t := 50) ?hr ?_; (case hd => rfl); (case hg => rfl); (case hr => first | (go_simp; done) | (go_simp; rfl)); intro gc hg w7 hbox hb; have HGC := Aside0.mk hg; have CK7 := Aside0.mk hbox; have HT7 := Aside0.mk (HT6.out.below hb); have HB7 := Aside0.mk (HB6.out.thenB hb); have BK7 := Aside0.mk ((Ch.of_below hb (fun _ => False)).heap BK6.out (fun h => h)); have HR7 := Aside0.mk (R_ch HR6.out (Ch.of_below hb (fun _ => False)) (fun _ _ h => h)); have HPC := Aside0.mk (show ¬ gc = pb from by have := tok_lt HT6.out; omega); have HBC := Aside0.mk (show ¬ gb = gc from by have := lt_of_block BK6.out; omega); clear hg hbox hb) | ((with_reducible refine gate_store (p := 6) rfl ?_); refine store_all rfl rfl 50 _ _ rfl #[.int .i64 x.f0, .string x.f1, .slice A2 x.f2.length c2] rfl rfl CK7.out rfl (by kernel_rfl) (by rfl) ?_; intro w8 h1 h2; have CK8 := Aside0.mk h1; have HT8 := Aside0.mk (TokAt.other HT7.out h2 HPC.out CK7.out (fun i h => by cases h)); have HB8 := Aside0.mk (HB7.out.trans h2 (fun k h => .inr (by have := HB6.out.size; have := HGC.out; omega))); have BK8 := Aside0.mk (h2.heap BK7.out HBC.out); have HR8 := Aside0.mk (R_ch HR7.out h2 (fun k hk e => by have := HGC.out; omega)); clear h1 h2))
  go_at_call 79
  refine (sign.calls pb s tRB st2 _ w8.heap.size (HT8.out.below (below_alloc (Below.refl _ _) _)) (heap_alloc_new w8 _) (by have := tok_lt HT8.out; omega)).mono ?_
  rw [HO2.out]
  rintro e w9 ⟨⟨v, rfl, rfl⟩, ht, hc⟩
  have HC89 := Aside0.mk (((Ch.refl (fun k => k = pb) w8).alloc _).trans hc (fun k h => .inl h))
  have HT9 := Aside0.mk ht
  have HB9 := Aside0.mk (HB8.out.trans HC89.out (fun k h => .inl h))
  have BK9 := Aside0.mk (HC89.out.heap BK8.out NE.out)
  have CK9 := Aside0.mk (HC89.out.heap CK8.out HPC.out)
  have HMX := Aside0.mk (k50_mkM w9 w5.heap.size (fun k => w5.heap.size ≤ k ∧ k < w6.heap.size) x (R_ch HR8.out HC89.out (fun k hk e => by have := HPL.out; omega)))
  have HBS : Aside0 (w5.heap.size ≤ w9.heap.size) := ⟨by have h1 := HC89.out.size; have h2 := HS56.out; have h3 := lt_of_block CK8.out; have h4 := HGC.out; omega⟩
  clear ht hc HR6 HR7 HR8 HT7 HT8 HB7 BK7 BK8 CK7 CK8
  go_wp2_with (first | ((with_reducible refine gate_dst (N := 41) rfl ?_); refine load_mid_w ?hw 50 _ rfl gc 0 rfl [.int .i64 x.f0, .string x.f1, .slice A2 x.f2.length c2] _ (range_of CK9.out (by rfl)) Try.underlying50 rfl (by kernel_rfl) ?_; (case hw => first | rfl | (go_simp; done) | (go_simp; rfl))) | ((with_reducible refine gate_dst (N := 42) rfl ?_); refine Kd.R_lit k50 (w0 := w9) w5.heap.size 50 ?hg (N := 42) ?hd (xs := [x]) (inner := [.int .i64 x.f0, .string x.f1, .slice A2 x.f2.length c2]) (ok := fun _ => True) (okp := fun k => w5.heap.size ≤ k ∧ k < w6.heap.size) ?hr ?hp (fun _ _ => trivial) trivial (Below.refl _ _) HBS.out (by simp) ?_; (case hd => rfl); (case hg => rfl); (case hr => first | (go_simp; done) | (go_simp; rfl)); (case hp => exact reps_single rfl HMX.out); intro w7v w10 hr7 hb7 hg7 hn7; obtain ⟨A7, c7, rfl⟩ := Kd.R_slice hr7; have HR7 := Aside0.mk hr7; have HB10 := Aside0.mk (HB9.out.thenB (below_none hg7)); have HT10 := Aside0.mk (HT9.out.below (below_none hg7)); have BK10 := Aside0.mk ((Ch.of_below (below_none hg7) (fun _ => False)).heap BK9.out (fun h => h)); clear hr7 hb7 hg7 hn7) | ((with_reducible refine gate_store (p := 4) rfl ?_); refine store_all rfl rfl 50 _ _ rfl #[.int .i64 6, .string ⟨#[]⟩, .slice A7 [x].length c7] rfl rfl BK10.out rfl (by kernel_rfl) (by rfl) ?_; intro w11 h1 h2; have BK11 := Aside0.mk h1; have HS11 := Aside0.mk h2; clear h1 h2))
  have HT11 := Aside0.mk (TokAt.other HT10.out HS11.out NE.out BK10.out (fun i h => by cases h))
  have HB11 : Aside0 (Ch (fun k => k = pb) w w11) := ⟨HB10.out.trans HS11.out (fun k h => .inr (by rw [h, HG.out]; exact Nat.le_refl _))⟩
  refine bodyPost_ret ?_ rfl ⟨⟨_, rfl, ⟨_, rfl, Kd.R_lower (R_past HR7.out HS11.out HGL.out) HWL.out⟩⟩, HT11.out, HB11.out⟩
  exact results_single rfl (.cell gb 50 #[.int .i64 6, .string ⟨#[]⟩, .slice A7 [x].length c7] (0, 0) _ rfl BK11.out Try.underlying50 rfl (by exact (by kernel_rfl : (Try.prog.info? 50).map (·.size) = some 3)) .nil)
theorem eqS_LB (x : ByteArray) : eqS x tLB = (x.toList == [91]) := by
  unfold eqS
  rw [show tLB.toList = [91] from by decide +kernel]
theorem eqS_Q (x : ByteArray) : eqS x tQ = (x.toList == [63]) := by
  unfold eqS
  rw [show tQ.toList = [63] from by decide +kernel]
theorem typedP_cons (k : Nat) (t : S31) (r : List S31) (n : Int) : typedP (k + 1) (t :: r, n) = (if plainP t.f1 > 0 then .inr (⟨plainP t.f1, ⟨#[]⟩, []⟩, (r, t.f2))
      else if eqS t.f1 tLB = true then (match typedP k (r, t.f2) with
        | .inl e => .inl e
        | .inr (x, st2) => (signP tRB st2).map id (fun q => (⟨6, ⟨#[]⟩, [x]⟩, q.2)))
      else if eqS t.f1 tQ = true then (typedP k (r, t.f2)).map id (fun q => (⟨7, ⟨#[]⟩, [q.1]⟩, q.2))
      else (nameP (t :: r, n)).map id (fun q => (⟨8, q.1, []⟩, q.2))) := rfl
set_option maxRecDepth 100000 in
theorem typed.calls : ∀ (k : Nat) (pb : Nat) (s : Sch) (st : St31) (d : Int) (w : World), d = 9 - (k : Int) → k ≤ 8 → TokAt w pb s st.1 st.2 → Calls Try.prog 83 #[.pointer (some ⟨pb, 0, none⟩), .int .i64 d] w (Ends w pb s (isTy w.heap.size) (typedP k st))
  | 0, pb, s, (l, n), d, w, hd, hk, h => by
    have h9 : d = 9 := by omega
    subst h9
    cases l with
    | nil => exact typed_nil pb s n 9 w h (by omega) (by omega)
    | cons t r => exact typed_deep pb s t r n w h
  | k + 1, pb, s, (l, n), d, w, hd, hk, h => by
    cases l with
    | nil => exact typed_nil pb s n d w h (by omega) (by omega)
    | cons t r =>
      have IH : ∀ w : World, TokAt w pb s r t.f2 → Calls Try.prog 83 #[.pointer (some ⟨pb, 0, none⟩), .int .i64 (d + 1)] w (Ends w pb s (isTy w.heap.size) (typedP k (r, t.f2))) := fun w h => typed.calls k pb s (r, t.f2) (d + 1) w (by omega) (by omega) h
      rw [typedP_cons]
      by_cases p0 : plainP t.f1 > 0
      · rw [if_pos p0]
        exact typed_plain pb s t r n d (plainP t.f1) w h (by omega) (by omega) rfl p0
      · rw [if_neg p0]
        by_cases ha : (t.f1.toList == [91]) = true
        · rw [if_pos (by rw [eqS_LB]; exact ha)]
          rcases ho : typedP k (r, t.f2) with ⟨c', st'⟩ | ⟨x, st2⟩
          · exact typed_list_inl pb s t r n d _ w h (by omega) (by omega) rfl p0 ha _ IH c' st' ho
          · rcases ho2 : signP tRB st2 with ⟨c', st'⟩ | ⟨q, st'⟩
            · show Calls Try.prog 83 _ w (Ends w pb s (isTy w.heap.size) ((signP tRB st2).map id (fun q => ((⟨6, ⟨#[]⟩, [x]⟩ : S50), q.2))))
              rw [ho2]
              exact typed_list_bad pb s t r n d _ w h (by omega) (by omega) rfl p0 ha _ IH x st2 ho c' st' ho2
            · show Calls Try.prog 83 _ w (Ends w pb s (isTy w.heap.size) ((signP tRB st2).map id (fun q => ((⟨6, ⟨#[]⟩, [x]⟩ : S50), q.2))))
              rw [ho2]
              exact typed_list_inr pb s t r n d _ w h (by omega) (by omega) rfl p0 ha _ IH x st2 ho q st' ho2
        · have ha' : (t.f1.toList == [91]) = false := by simpa using ha
          rw [if_neg (by rw [eqS_LB, ha']; decide)]
          by_cases hb : (t.f1.toList == [63]) = true
          · rw [if_pos (by rw [eqS_Q]; exact hb)]
            rcases ho : typedP k (r, t.f2) with ⟨c', st'⟩ | ⟨x, st'⟩
            · exact typed_opt_inl pb s t r n d _ w h (by omega) (by omega) rfl p0 ha' hb _ IH c' st' ho
            · exact typed_opt_inr pb s t r n d _ w h (by omega) (by omega) rfl p0 ha' hb _ IH x st' ho
          · have hb' : (t.f1.toList == [63]) = false := by simpa using hb
            rw [if_neg (by rw [eqS_Q, hb']; decide)]
            rcases ho : nameP (t :: r, n) with ⟨c', st'⟩ | ⟨a, st'⟩
            · exact typed_named_inl pb s t r n d _ w h (by omega) (by omega) rfl p0 ha' hb' c' st' ho
            · exact typed_named_inr pb s t r n d _ w h (by omega) (by omega) rfl p0 ha' hb' a st' ho
theorem TokAt.block {w : World} {pb : Nat} {s : Sch} {l : List S31} {n : Int} (h : TokAt w pb s l n) : ∃ cs, w.heap[pb]? = some (.cells cs 80 (0, 0)) := by
  obtain ⟨A, c, hb, _⟩ := h.at_
  exact ⟨_, hb⟩
def tSC : ByteArray := ⟨#[59]⟩
/-- A closure's captures: the parser's pointer in its box, and the declaration that is being read. -/
def JX {α : Type} (d : Kd α) (e T B pb bp bx : Nat) (nm : ByteArray) (xs : List α) (w : World) : Prop :=
  w.heap[bp]? = some (.cells #[.pointer (some ⟨pb, 0, none⟩)] 76 (0, 0)) ∧ ∃ v, w.heap[bx]? = some (.cells #[.string nm, v] T (0, 0)) ∧ d.R e w B (fun _ => True) v xs
theorem JX.ch {α : Type} {d : Kd α} {e T B pb bp bx : Nat} {nm : ByteArray} {xs : List α} {w w1 : World} {cs : Array Value} (h : JX d e T B pb bp bx nm xs w) (hc : Ch (fun k => k = pb) w w1) (hp : bp ≠ pb) (hx : bx ≠ pb) (hb : w.heap[pb]? = some (.cells cs 80 (0, 0))) (ht : ∀ q, q ∈ e :: d.E → q ≠ 80) : JX d e T B pb bp bx nm xs w1 := by
  obtain ⟨h1, v, h2, h3⟩ := h
  exact ⟨hc.heap h1 hp, v, hc.heap h2 hx, Kd.R_mono (R_ch (Kd.R_types h3 hb ht) hc (fun k hk e => hk.2 e)) (fun _ _ => trivial)⟩
/-- How a closure ends. -/
def EndsC (w : World) (pb : Nat) (s : Sch) (B : Nat) {α : Type} (J : α → World → Prop) : Out α → Ending → World → Prop
  | .inl (c, st), e, w' => e = .panicked (pnc c) ∧ TokAt w' pb s st.1 st.2 ∧ Ch (fun k => k = pb ∨ B ≤ k) w w'
  | .inr (a, st), e, w' => e = .returned (.tuple #[]) ∧ J a w' ∧ TokAt w' pb s st.1 st.2 ∧ Ch (fun k => k = pb ∨ B ≤ k) w w'
def bindO {α β : Type} (o : Out α) (f : α → St31 → Out β) : Out β := match o with
  | .inl e => .inl e
  | .inr (a, st) => f a st
theorem bindO_l {α β : Type} {o : Out α} {f : α → St31 → Out β} {e : Int × St31} (h : o = .inl e) : bindO o f = .inl e := by subst h; rfl
theorem bindO_r {α β : Type} {o : Out α} {f : α → St31 → Out β} {a : α} {st : St31} (h : o = .inr (a, st)) : bindO o f = f a st := by subst h; rfl
def tCO : ByteArray := ⟨#[58]⟩
def tLP : ByteArray := ⟨#[40]⟩
def tRP : ByteArray := ⟨#[41]⟩
def enum1P (st : St31) : Out S88 := bindO (numberP st) fun n st1 => bindO (nameP st1) fun a st2 => bindO (signP tSC st2) fun _ st3 => .inr (⟨a, n⟩, st3)
def struct1P (st : St31) : Out S52 := bindO (numberP st) fun n st1 => bindO (nameP st1) fun a st2 => bindO (signP tCO st2) fun _ st3 => bindO (typedP 8 st3) fun ty st4 => bindO (signP tSC st4) fun _ st5 => .inr (⟨a, n, ty⟩, st5)
def tOnce : ByteArray := ⟨#[111, 110, 99, 101]⟩
def tRead : ByteArray := ⟨#[114, 101, 97, 100]⟩
def svc1P (st : St31) : Out S94 := bindO (askP (eqS (peekP st.1).f1 tOnce || eqS (peekP st.1).f1 tRead) st) fun k st1 => bindO (nameP st1) fun a st2 => bindO (signP tLP st2) fun _ st3 => bindO (typedP 8 st3) fun x st4 => bindO (signP tRP st4) fun _ st5 => bindO (typedP 8 st5) fun y st6 => bindO (signP tSC st6) fun _ st7 => .inr (⟨a, eqS k tOnce, x, y⟩, st7)
theorem Ch.of_belowB {B : Nat} {w w1 : World} (h : Below B w w1) : Ch (fun k => B ≤ k) w w1 := ⟨h.os, h.tape, h.output, h.size, fun k _ hn => h.block k (by omega)⟩
theorem TokAt.setc {w : World} {pb g B : Nat} {s : Sch} {l : List S31} {n : Int} (h : TokAt w pb s l n) (hB : s.B ≤ B) (hp : pb < B) (hg : B ≤ g) (j : Nat) (u : Value) : TokAt (w.setCell ⟨g, j, none⟩ u) pb s l n := h.above ((Ch.refl (fun k => B ≤ k) w).set (p := ⟨g, j, none⟩) (.inl hg) u) hB hp
/-- The declaration's row has grown by one, and its new slice is stored. -/
theorem JX.snoc {α : Type} {d : Kd α} {e T B pb bp bx : Nat} {nm : ByteArray} {xs ys : List α} {W w1 : World} {v v1 : Value} (hp : W.heap[bp]? = some (.cells #[.pointer (some ⟨pb, 0, none⟩)] 76 (0, 0))) (hx : W.heap[bx]? = some (.cells #[.string nm, v] T (0, 0))) (hr : d.R e W B (fun _ => True) v xs) (hg : W.grownBy w1 v.ownBlock) (hr1 : d.R e w1 B (fun _ => True) v1 ys) (hne : bp ≠ bx) (ht : ∀ q, q ∈ e :: d.E → q ≠ T) (he : e ≠ 76) :
    w1.heap[bx]? = some (.cells #[.string nm, v] T (0, 0)) ∧ JX d e T B pb bp bx nm ys (w1.setCell ⟨bx, 1, none⟩ v1) := by
  have hx1 : w1.heap[bx]? = some (.cells #[.string nm, v] T (0, 0)) := (hg.block bx (lt_of_block hx) (Kd.R_ne hr hx (ht e List.mem_cons_self))).trans hx
  have hp1 : w1.heap[bp]? = some (.cells #[.pointer (some ⟨pb, 0, none⟩)] 76 (0, 0)) := (hg.block bp (lt_of_block hp) (Kd.R_ne hr hp he)).trans hp
  refine ⟨hx1, (Below.heap_setCell w1 ⟨bx, 1, none⟩ v1 bp hne).trans hp1, v1, ?_, Kd.R_set hr1 hx1 ht 1 v1⟩
  have := zset hx1 1 v1
  simpa using this
section
variable {P : Program} {ops : Array Oper} {rest : List Oper} {o : Oper} {a : Act} {Q : Exit → Act → World → Prop}
/-- A part of a block is written by one store. -/
theorem store_part {W : World} (hgd : o.guard = none) (hN : o.dst = none) (t : TypeId) (p x : Operand) (ho : o.op = .store t p x) {g o' : Nat} {cs : Array Value} {tb : TypeId} (vs cs' : Array Value) (haddr : a.eval p = .pointer (some ⟨g, o', none⟩)) (hx : a.eval x = .agg vs) (hh : W.heap[g]? = some (.cells cs tb (0, 0))) (hl : o' + vs.size ≤ cs.size) (hcs : cs'.toList = cs.toList.take o' ++ vs.toList ++ cs.toList.drop (o' + vs.size)) (hi : (P.info? t).map (·.size) = some vs.size) (h1 : vs.toList.all (·.oneCell') = true)
    (h : ∀ w1, w1.heap[g]? = some (.cells cs' tb (0, 0)) → Ch (fun k => k = g) W w1 → wpList P ops Q rest (a.put o.dst undef) w1) : wpList P ops Q (o :: rest) a W := by
  refine wpList_plain hgd fun K hK => ?_
  have hrun : (Instr.storeAt t (.pointer (some ⟨g, o', none⟩)) (.agg vs)).run P W = .ok () (W.setCells g o' vs.toList) :=
    run_store_run t (.agg vs) vs.toList hh rfl (by rw [hi]; simp) (by simp; omega) (fun q hq => List.all_eq_true.1 h1 q hq)
  unfold Oper.wp execOp
  simp only [ho, haddr, hx, Sem.run_bind, Sem.run_pure, Result.andThen_ok, hrun]
  refine hK _ _ (h _ ?_ (ch_setCells W g o' vs.toList))
  obtain ⟨cur, e1, e2, e3⟩ := setCells_row vs.toList o' W cs hh (by simp; omega)
  rw [e1]
  congr 2
  apply Array.ext'
  rw [e3, hcs]
  simp
end
theorem keep_set {W : World} {p a : Addr} {u v : Value} (h : W.cell? a = some v) (hn : a.block ≠ p.block) : (W.setCell p u).cell? a = some v := by
  have e := Below.heap_setCell W p u a.block hn
  unfold World.cell? at h ⊢
  rw [e]; exact h
theorem keep_alloc {W : World} {o : Obj} {a : Addr} {v : Value} (h : W.cell? a = some v) : (W.alloc o).cell? a = some v := cell_step (below_alloc (Below.refl _ _) o) h
theorem keep_drew {W : World} {a : Addr} {v : Value} (h : W.cell? a = some v) : W.drew.cell? a = some v := h
theorem info88 : (Try.prog.info? 88).map (fun i => (i.zero, i.size, i.bytes)) = some (some (.agg #[.string ⟨#[]⟩, .int .i64 0]), 2, 24) := by kernel_rfl
theorem info52 : (Try.prog.info? 52).map (fun i => (i.zero, i.size, i.bytes)) = some (some (.agg #[.string ⟨#[]⟩, .int .i64 0, .int .i64 0, .string ⟨#[]⟩, .slice none 0 0]), 5, 72) := by kernel_rfl
theorem info94 : (Try.prog.info? 94).map (fun i => (i.zero, i.size, i.bytes)) = some (some (.agg #[.string ⟨#[]⟩, .bool false, .int .i64 0, .string ⟨#[]⟩, .slice none 0 0, .int .i64 0, .string ⟨#[]⟩, .slice none 0 0]), 8, 120) := by kernel_rfl
theorem info47 : (Try.prog.info? 47).map (fun i => (i.zero, i.size, i.bytes)) = some (some (.agg #[.string ⟨#[]⟩, .slice none 0 0]), 2, 40) := by kernel_rfl
theorem info86 : (Try.prog.info? 86).map (fun i => (i.zero, i.size, i.bytes)) = some (some (.agg #[.string ⟨#[]⟩, .slice none 0 0]), 2, 40) := by kernel_rfl
theorem info91 : (Try.prog.info? 91).map (fun i => (i.zero, i.size, i.bytes)) = some (some (.agg #[.string ⟨#[]⟩, .slice none 0 0]), 2, 40) := by kernel_rfl
section
variable {P : Program} {ops : Array Oper} {o : Oper} {a : Act} {Q : Exit → Act → World → Prop} {Kc : Act → World → Prop} {E : Prop}
end
theorem pack3 {w W w3 : World} {g pb bp B : Nat} {s : Sch} {l : List S31} {m : Int} {o : Obj} (h2 : Ch (fun k => k = g) W w3) (hT : TokAt W pb s l m) (hC : Ch (fun k => k = pb) w W) (hge : w.heap.size ≤ g) (hP : w.heap[bp]? = some o) (hbp : B ≤ bp) (hsB : s.B ≤ B) (hpB : pb < B) (nep : ¬ bp = pb) :
    TokAt w3 pb s l m ∧ Ch (fun k => k = pb) w w3 ∧ w3.heap[bp]? = some o ∧ B ≤ g ∧ w.heap.size ≤ g := by
  have hg : B ≤ g := Nat.le_trans (Nat.le_of_lt (Nat.lt_of_le_of_lt hbp (lt_of_block hP))) hge
  have hC3 : Ch (fun k => k = pb) w w3 := hC.trans h2 (fun k h => .inr (by rw [h]; exact hge))
  exact ⟨hT.above (h2.mono (S' := fun k => B ≤ k) (fun k h => by rw [h]; exact hg)) hsB hpB, hC3, hC3.heap hP nep, hg, hge⟩
theorem pack4 {w W : World} {g pb bp B : Nat} {s : Sch} {l : List S31} {m : Int} {o : Obj} {cs : Array Value} {tb : TypeId} (vs : Array Value) (hh : W.heap[g]? = some (.cells cs tb (0, 0))) (hl : vs.size = cs.size) (hT : TokAt W pb s l m) (hC : Ch (fun k => k = pb) w W) (hge : w.heap.size ≤ g) (hP : w.heap[bp]? = some o) (hbp : B ≤ bp) (hsB : s.B ≤ B) (hpB : pb < B) (nep : ¬ bp = pb) :
    Aside0 (TokAt (W.setCells g 0 vs.toList) pb s l m) ∧ Aside0 (Ch (fun k => k = pb) w (W.setCells g 0 vs.toList)) ∧ Aside0 ((W.setCells g 0 vs.toList).heap[g]? = some (.cells vs tb (0, 0))) ∧ Aside0 (B ≤ g) ∧ Aside0 (w.heap.size ≤ g) ∧ Aside0 (g < (W.setCells g 0 vs.toList).heap.size) := by
  obtain ⟨h1, h2, h3, h4, h5⟩ := pack3 (ch_setCells W g 0 vs.toList) hT hC hge hP hbp hsB hpB nep
  have h6 := put_all vs hh hl
  exact ⟨⟨h1⟩, ⟨h2⟩, ⟨h6⟩, ⟨h4⟩, ⟨h5⟩, ⟨lt_of_block h6⟩⟩
theorem fin_alloc {w w2 : World} {pb bp B : Nat} {s : Sch} {l : List S31} {m : Int} {o : Obj} {vs : Array Value} {tb : TypeId} (hT : TokAt w2 pb s l m) (hC : Ch (fun k => k = pb) w w2) (hP : w.heap[bp]? = some o) (hbp : B ≤ bp) (hsB : s.B ≤ B) (hpB : pb < B) (nep : ¬ bp = pb) :
    Aside0 (TokAt (w2.alloc (.cells vs tb)) pb s l m) ∧ Aside0 (Ch (fun k => k = pb) w (w2.alloc (.cells vs tb))) ∧ Aside0 ((w2.alloc (.cells vs tb)).heap[w2.heap.size]? = some (.cells vs tb (0, 0))) ∧ Aside0 (B ≤ w2.heap.size) ∧ Aside0 (w.heap.size ≤ w2.heap.size) ∧ Aside0 (w2.heap.size < (w2.alloc (.cells vs tb)).heap.size) :=
  ⟨⟨hT.below (below_alloc (Below.refl _ _) _)⟩, ⟨hC.alloc _⟩, ⟨heap_alloc_new w2 _⟩, ⟨Nat.le_trans (Nat.le_of_lt (Nat.lt_of_le_of_lt hbp (lt_of_block hP))) hC.size⟩, ⟨hC.size⟩, ⟨lt_of_block (heap_alloc_new w2 _)⟩⟩
theorem fin_set2 {w w2 : World} {g pb bp B : Nat} {s : Sch} {l : List S31} {m : Int} {o : Obj} {cs : Array Value} {tb : TypeId} {a0 a1 : Value} (hh : w2.heap[g]? = some (.cells cs tb (0, 0))) (hl : cs.size = 2) (hT : TokAt w2 pb s l m) (hC : Ch (fun k => k = pb) w w2) (hge : w.heap.size ≤ g) (hP : w.heap[bp]? = some o) (hbp : B ≤ bp) (hsB : s.B ≤ B) (hpB : pb < B) (nep : ¬ bp = pb) :
    Aside0 (TokAt ((w2.setCell ⟨g, 0, none⟩ a0).setCell ⟨g, 1, none⟩ a1) pb s l m) ∧ Aside0 (Ch (fun k => k = pb) w ((w2.setCell ⟨g, 0, none⟩ a0).setCell ⟨g, 1, none⟩ a1)) ∧ Aside0 (((w2.setCell ⟨g, 0, none⟩ a0).setCell ⟨g, 1, none⟩ a1).heap[g]? = some (.cells #[a0, a1] tb (0, 0))) ∧ Aside0 (B ≤ g) ∧ Aside0 (w.heap.size ≤ g) ∧ Aside0 (g < ((w2.setCell ⟨g, 0, none⟩ a0).setCell ⟨g, 1, none⟩ a1).heap.size) :=
  pack4 #[a0, a1] hh hl.symm hT hC hge hP hbp hsB hpB nep
theorem fin_set5 {w w2 : World} {g pb bp B : Nat} {s : Sch} {l : List S31} {m : Int} {o : Obj} {cs : Array Value} {tb : TypeId} {a0 a1 a2 a3 a4 : Value} (hh : w2.heap[g]? = some (.cells cs tb (0, 0))) (hl : cs.size = 5) (hT : TokAt w2 pb s l m) (hC : Ch (fun k => k = pb) w w2) (hge : w.heap.size ≤ g) (hP : w.heap[bp]? = some o) (hbp : B ≤ bp) (hsB : s.B ≤ B) (hpB : pb < B) (nep : ¬ bp = pb) :
    Aside0 (TokAt (((((w2.setCell ⟨g, 0, none⟩ a0).setCell ⟨g, 1, none⟩ a1).setCell ⟨g, 2, none⟩ a2).setCell ⟨g, 3, none⟩ a3).setCell ⟨g, 4, none⟩ a4) pb s l m) ∧ Aside0 (Ch (fun k => k = pb) w (((((w2.setCell ⟨g, 0, none⟩ a0).setCell ⟨g, 1, none⟩ a1).setCell ⟨g, 2, none⟩ a2).setCell ⟨g, 3, none⟩ a3).setCell ⟨g, 4, none⟩ a4)) ∧ Aside0 ((((((w2.setCell ⟨g, 0, none⟩ a0).setCell ⟨g, 1, none⟩ a1).setCell ⟨g, 2, none⟩ a2).setCell ⟨g, 3, none⟩ a3).setCell ⟨g, 4, none⟩ a4).heap[g]? = some (.cells #[a0, a1, a2, a3, a4] tb (0, 0))) ∧ Aside0 (B ≤ g) ∧ Aside0 (w.heap.size ≤ g) ∧ Aside0 (g < (((((w2.setCell ⟨g, 0, none⟩ a0).setCell ⟨g, 1, none⟩ a1).setCell ⟨g, 2, none⟩ a2).setCell ⟨g, 3, none⟩ a3).setCell ⟨g, 4, none⟩ a4).heap.size) :=
  pack4 #[a0, a1, a2, a3, a4] hh hl.symm hT hC hge hP hbp hsB hpB nep
theorem fin_set8 {w w2 : World} {g pb bp B : Nat} {s : Sch} {l : List S31} {m : Int} {o : Obj} {cs : Array Value} {tb : TypeId} {a0 a1 a2 a3 a4 a5 a6 a7 : Value} (hh : w2.heap[g]? = some (.cells cs tb (0, 0))) (hl : cs.size = 8) (hT : TokAt w2 pb s l m) (hC : Ch (fun k => k = pb) w w2) (hge : w.heap.size ≤ g) (hP : w.heap[bp]? = some o) (hbp : B ≤ bp) (hsB : s.B ≤ B) (hpB : pb < B) (nep : ¬ bp = pb) :
    Aside0 (TokAt ((((((((w2.setCell ⟨g, 0, none⟩ a0).setCell ⟨g, 1, none⟩ a1).setCell ⟨g, 2, none⟩ a2).setCell ⟨g, 3, none⟩ a3).setCell ⟨g, 4, none⟩ a4).setCell ⟨g, 5, none⟩ a5).setCell ⟨g, 6, none⟩ a6).setCell ⟨g, 7, none⟩ a7) pb s l m) ∧ Aside0 (Ch (fun k => k = pb) w ((((((((w2.setCell ⟨g, 0, none⟩ a0).setCell ⟨g, 1, none⟩ a1).setCell ⟨g, 2, none⟩ a2).setCell ⟨g, 3, none⟩ a3).setCell ⟨g, 4, none⟩ a4).setCell ⟨g, 5, none⟩ a5).setCell ⟨g, 6, none⟩ a6).setCell ⟨g, 7, none⟩ a7)) ∧ Aside0 (((((((((w2.setCell ⟨g, 0, none⟩ a0).setCell ⟨g, 1, none⟩ a1).setCell ⟨g, 2, none⟩ a2).setCell ⟨g, 3, none⟩ a3).setCell ⟨g, 4, none⟩ a4).setCell ⟨g, 5, none⟩ a5).setCell ⟨g, 6, none⟩ a6).setCell ⟨g, 7, none⟩ a7).heap[g]? = some (.cells #[a0, a1, a2, a3, a4, a5, a6, a7] tb (0, 0))) ∧ Aside0 (B ≤ g) ∧ Aside0 (w.heap.size ≤ g) ∧ Aside0 (g < ((((((((w2.setCell ⟨g, 0, none⟩ a0).setCell ⟨g, 1, none⟩ a1).setCell ⟨g, 2, none⟩ a2).setCell ⟨g, 3, none⟩ a3).setCell ⟨g, 4, none⟩ a4).setCell ⟨g, 5, none⟩ a5).setCell ⟨g, 6, none⟩ a6).setCell ⟨g, 7, none⟩ a7).heap.size) :=
  pack4 #[a0, a1, a2, a3, a4, a5, a6, a7] hh hl.symm hT hC hge hP hbp hsB hpB nep
/-! The parser, plain: what the steps of a declaration leave. -/
def tLC : ByteArray := ⟨#[123]⟩
def tRC : ByteArray := ⟨#[125]⟩
/-- Parts up to the end, m more at most. -/
def partsP {α : Type} (one : St31 → Out α) : Nat → St31 → Out (List α)
  | 0, st => if eqS (peekP st.1).f1 tRC = true then bindO (signP tRC st) fun _ st1 => .inr ([], st1) else if st.1.length = 0 then bindO (one st) fun _ st1 => .inl (3, st1) else .inl (3, st)
  | m + 1, st => if eqS (peekP st.1).f1 tRC = true then bindO (signP tRC st) fun _ st1 => .inr ([], st1) else bindO (one st) fun a st1 => bindO (partsP one m st1) fun l st2 => .inr (a :: l, st2)
def blockP {α : Type} (one : St31 → Out α) (st : St31) : Out (ByteArray × List α) := bindO (nameP st) fun a st1 => bindO (signP tLC st1) fun _ st2 => bindO (partsP one 32 st2) fun l st3 => .inr ((a, l), st3)
inductive DeclT
  | s (a : ByteArray) (l : List S52)
  | e (a : ByteArray) (l : List S88)
  | v (a : ByteArray) (l : List S94)
def tStruct : ByteArray := ⟨#[115, 116, 114, 117, 99, 116]⟩
def tEnum : ByteArray := ⟨#[101, 110, 117, 109]⟩
def tService : ByteArray := ⟨#[115, 101, 114, 118, 105, 99, 101]⟩
def wordB (x : ByteArray) : Bool := eqS x tStruct || (eqS x tEnum || eqS x tService)
def declP (st : St31) : Out DeclT := bindO (askP (wordB (peekP st.1).f1) st) fun k st1 =>
  if eqS k tStruct = true then bindO (blockP struct1P st1) fun x st2 => .inr (.s x.1 x.2, st2)
  else if eqS k tEnum = true then bindO (blockP enum1P st1) fun x st2 => .inr (.e x.1 x.2, st2)
  else bindO (blockP svc1P st1) fun x st2 => .inr (.v x.1 x.2, st2)
def declsP : Nat → St31 → Out (List DeclT)
  | 0, st => if st.1.length = 0 then .inr ([], st) else .inl (3, st)
  | m + 1, st => if st.1.length = 0 then .inr ([], st) else bindO (declP st) fun d st1 => bindO (declsP m st1) fun l st2 => .inr (d :: l, st2)
def enum1R (n : Int) (a : ByteArray) : ByteArray → St31 → Out S88 := fun _ st3 => .inr (⟨a, n⟩, st3)
def struct1R (n : Int) (a : ByteArray) : ByteArray → St31 → Out S52 := fun _ st3 => bindO (typedP 8 st3) fun ty st4 => bindO (signP tSC st4) fun _ st5 => .inr (⟨a, n, ty⟩, st5)
def svc1R (k a : ByteArray) : ByteArray → St31 → Out S94 := fun _ st3 => bindO (typedP 8 st3) fun x st4 => bindO (signP tRP st4) fun _ st5 => bindO (typedP 8 st5) fun y st6 => bindO (signP tSC st6) fun _ st7 => .inr (⟨a, eqS k tOnce, x, y⟩, st7)
end Go.Proofs.Ytoloneoeojoiaaa.EParseBack

