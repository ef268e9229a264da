/- The printer's steps that fail; any type has a shape. -/
import Derived.Test.YtoloneoeojoiaaaMayQ
namespace Go.Proofs.Ytoloneoeojoiaaa.EParseBack
open Go.RowKit Go.Shelf Go.Proofs.YtoloneoeojoiaaaW.PrintWords Go.Proofs.YtoloneoeojoiaaaW.PrintLast Go.Proofs.YtoloneoeojoiaaaW.PrintMore
set_option linter.unusedVariables false
set_option linter.unusedSimpArgs false
/-- How a step of the printer fails. -/
def Stop (base b : Nat) (w : World) (c : Int) (e : Ending) (w' : World) : Prop := e = .panicked (pnc c) ∧ KpB b w w' ∧ Below base w w'
theorem Stop.then {base b : Nat} {w0 w1 : World} {c : Int} {e : Ending} {w' : World} (hk : KpB b w0 w1) (hb : Below base w0 w1) (h : Stop base b w1 c e w') : e = .panicked (pnc c) ∧ KpB b w0 w' ∧ Below base w0 w' := ⟨h.1, hk.trans h.2.1, hb.trans h.2.2⟩
theorem Stop.of_below {base b : Nat} {w w' : World} {c : Int} (h : Below w.heap.size w w') (hb : base ≤ w.heap.size) : Stop base b w c (.panicked (pnc c)) w' := ⟨rfl, KpB.of_below h, h.mono hb⟩
set_option maxHeartbeats 4000000 in
set_option maxRecDepth 100000 in
theorem pname_no.calls (base b : Nat) (s : ByteArray) (w : World) (hbb : base ≤ w.heap.size) (hs : nameB s = false) : Calls Try.prog 93 #[.pointer (some ⟨b, 0, none⟩), .string s] w (Stop base b w 31) := by
  have HS := Aside0.mk hs
  have HBB := Aside0.mk hbb
  clear hs hbb
  unfold Stop
  go_enter Try.func93, Try.ntmps93
  go_wp2_with fail
  go_at_call 101
  refine (name_.calls s _).mono ?_
  rw [HS.out]
  rintro e w1 ⟨rfl, hb⟩
  have HW1 := Aside0.mk hb
  clear hb
  go_wp2_with fail
  go_at_call 54
  refine (need_no.calls 31 _).mono ?_
  rintro e w2 ⟨rfl, rfl⟩
  exact ⟨rfl, rfl, KpB.of_below HW1.out, HW1.out.mono HBB.out⟩
set_option maxHeartbeats 4000000 in
set_option maxRecDepth 100000 in
theorem pnumber_no.calls (base b : Nat) (n : Int) (w : World) (hbb : base ≤ w.heap.size) (hn : ¬ (0 ≤ n ∧ n ≤ 999999999)) : Calls Try.prog 94 #[.pointer (some ⟨b, 0, none⟩), .int .i64 n] w (Stop base b w 4) := by
  have HBB := Aside0.mk hbb
  clear hbb
  unfold Stop
  by_cases h0 : 0 ≤ n
  · have h1 : ¬ n ≤ 999999999 := fun h => hn ⟨h0, h⟩
    clear hn
    go_enter Try.func94, Try.ntmps94
    go_wp2_with fail
    go_at_call 54
    refine (need_no.calls 4 _).mono ?_
    rintro e w2 ⟨rfl, rfl⟩
    exact ⟨rfl, rfl, KpB.refl _ _, Below.refl _ _⟩
  · clear hn
    go_enter Try.func94, Try.ntmps94
    go_wp2_with fail
    go_at_call 54
    refine (need_no.calls 4 _).mono ?_
    rintro e w2 ⟨rfl, rfl⟩
    exact ⟨rfl, rfl, KpB.refl _ _, Below.refl _ _⟩
set_option maxHeartbeats 4000000 in
set_option maxRecDepth 100000 in
theorem ptyped_no.calls (K base b : Nat) (t : S50) (k : Int) (A : Option Addr) (c : Nat) (w : World) (hbb : base ≤ w.heap.size) (hF : Kd.F k50 w (fun k => k < base) A t.f2.length t.f2) (hc : t.f2.length ≤ c) (hS : parse_Shape.f K t.f0 t.f1 t.f2 = some k) (hk : k ≠ 0) :
    Calls Try.prog 71 #[.pointer (some ⟨b, 0, none⟩), .agg #[.int .i64 t.f0, .string t.f1, .slice A t.f2.length c]] w (Stop base b w k) := by
  have HBB := Aside0.mk hbb
  have HSH := Aside0.mk (fun (W : World) (hB : Below base w W) => parse_Shape.calls K t.f0 t.f1 A c t.f2 k W (F_here (F_on hF hB)) hc hS)
  have hk0 : (k == 0) = false := by simpa using hk
  clear hF hc hS hbb
  obtain ⟨n, hn⟩ : ∃ n, n = t.f2.length := ⟨_, rfl⟩
  rw [← hn]
  rw [← hn] at HSH
  clear hn
  unfold Stop
  go_enter Try.func71, Try.ntmps71
  go_wp2_with (first | ((with_reducible refine gate_dst (N := 3) rfl ?_); refine box_event ?hg (N := 3) ?hd (cs := #[.int .i64 t.f0, .string t.f1, .slice A n c]) (t := 50) ?hr ?_; (case hd => rfl); (case hg => rfl); (case hr => first | (go_simp; done) | (go_simp; rfl)); intro g2 hg1 w1 hbox hb; have K1 := Aside0.mk hbox; have HW1 := Aside0.mk hb; have HG1 := Aside0.mk hg1; clear hg1 hbox hb; have z1 := zcell K1.out 0 _ rfl; have z2 := zcell K1.out 1 _ rfl; have z3 := zcell K1.out 2 _ rfl))
  have HW1b := Aside0.mk (HW1.out.mono HBB.out)
  go_at_call 95
  refine (HSH.out w1 HW1b.out).mono ?_
  rintro e w2 ⟨rfl, hb⟩
  have HW2 := Aside0.mk (below_b HW1.out hb HW1.out.size)
  clear hb K1 HW1b z1 z2 z3
  go_wp2_with fail
  go_at_call 54
  refine (need_no.calls k _).mono ?_
  rintro e w3 ⟨rfl, rfl⟩
  exact ⟨rfl, rfl, KpB.of_below HW2.out, HW2.out.mono HBB.out⟩
set_option maxHeartbeats 4000000 in
set_option maxRecDepth 100000 in
theorem pbegin_many.calls (base b : Nat) (u s : ByteArray) (n : Nat) (w : World) (hn : ¬ n ≤ 32) :
    Calls Try.prog 68 #[.pointer (some ⟨b, 0, none⟩), .string u, .string s, .int .i64 (n : Int)] w (Stop base b w 3) := by
  have h1 : ¬ ((n : Int) ≤ 32) := by omega
  clear hn
  unfold Stop
  go_enter Try.func68, Try.ntmps68
  go_wp2_with fail
  go_at_call 54
  refine (need_no.calls 3 _).mono ?_
  rintro e w2 ⟨rfl, rfl⟩
  exact ⟨rfl, rfl, KpB.refl _ _, Below.refl _ _⟩
set_option maxHeartbeats 2000000 in
set_option maxRecDepth 100000 in
theorem pbegin_no.calls (base b : Nat) (l : List UInt8) (u s : ByteArray) (n : Nat) (w : World) (h : Bld 108 base b l [] w) (hbb : base ≤ b) (hs : nameB s = false) (hn : n ≤ 32) (hlen : l.length + u.size + 10 ≤ 100000000) :
    Calls Try.prog 68 #[.pointer (some ⟨b, 0, none⟩), .string u, .string s, .int .i64 (n : Int)] w (Stop base b w 31) := by
  have HB := Aside0.mk h
  have HS := Aside0.mk hs
  have HL := Aside0.mk hlen
  have HBB := Aside0.mk hbb
  have h0 : (0 : Int) ≤ ((n : Nat) : Int) := by omega
  have h1 : ((n : Nat) : Int) ≤ 32 := by omega
  have hd1 : decide (((n : Nat) : Int) ≤ 32) = true := decide_eq_true h1
  clear h hs hlen hbb
  unfold Stop
  go_enter Try.func68, Try.ntmps68
  go_wp2_with fail
  go_at_call 54
  refine (need_yes.calls 3 _).mono ?_
  rintro e w1 ⟨rfl, rfl⟩
  clear h0 h1 hd1 hn
  go_wp2_with fail
  go_at_call 70
  have HT := Aside0.mk (lits_new base b w.heap.size l [u, ⟨#[32]⟩] w HB.out HBB.out rfl (show 2 ≤ 9 by decide) (by
    have := HL.out
    rw [word_sp u]; omega))
  refine (show Calls Try.prog 70 #[.pointer (some ⟨b, 0, none⟩), .slice (some ⟨w.heap.size, 0, none⟩) 2 2] _ _ from HT.out).mono ?_
  rintro e w2 ⟨rfl, hb2, hk2, hw2⟩
  clear HT
  have HB2 := Aside0.mk hb2
  have HK2 := Aside0.mk hk2
  have HW2 := Aside0.mk hw2
  clear hb2 hk2 hw2
  have hl2 : (l ++ catL [u, ⟨#[32]⟩]).length = l.length + u.size + 1 := by rw [List.length_append, word_sp]; omega
  have HL2 := Aside0.mk hl2
  clear hl2
  obtain ⟨l2, hl2⟩ : ∃ l2, l2 = l ++ catL [u, ⟨#[32]⟩] := ⟨_, rfl⟩
  rw [← hl2] at HB2 HL2
  have HE2 := Aside0.mk hl2
  clear hl2
  go_wp2_with fail
  go_at_call 93
  refine (pname_no.calls base b s w2 (Nat.le_trans HBB.out (Nat.le_of_lt HB2.out.lt)) HS.out).mono ?_
  rintro e wz h4
  have h5 := Stop.then (HK2.out) (HW2.out) h4
  obtain ⟨rfl, h6, h7⟩ := h5
  exact ⟨rfl, rfl, h6, h7⟩
set_option maxHeartbeats 2000000 in
set_option maxRecDepth 100000 in
theorem ppart_no.calls (base b : Nat) (l : List UInt8) (n : Nat) (s : ByteArray) (w : World) (h : Bld 108 base b l [] w) (hbb : base ≤ b) (hn : n ≤ 999999999) (hs : nameB s = false) (hlen : l.length + 60 ≤ 100000000) :
    Calls Try.prog 69 #[.pointer (some ⟨b, 0, none⟩), .int .i64 (n : Int), .string s] w (Stop base b w 31) := by
  have HB := Aside0.mk h
  have HS := Aside0.mk hs
  have HN := Aside0.mk hn
  have HL := Aside0.mk hlen
  have HBB := Aside0.mk hbb
  clear h hs hlen hbb hn
  unfold Stop
  go_enter Try.func69, Try.ntmps69
  go_wp2_with fail
  go_at_call 70
  have HT := Aside0.mk (lits_new base b w.heap.size l [⟨#[9]⟩] w HB.out HBB.out rfl (show 1 ≤ 9 by decide) (by
    have := HL.out
    have e : (catL [⟨#[9]⟩]).length = 1 := rfl
    rw [e]; omega))
  refine (show Calls Try.prog 70 #[.pointer (some ⟨b, 0, none⟩), .slice (some ⟨w.heap.size, 0, none⟩) 1 1] _ _ from HT.out).mono ?_
  rintro e w2 ⟨rfl, hb2, hk2, hw2⟩
  clear HT
  have HB2 := Aside0.mk hb2
  have HK2 := Aside0.mk hk2
  have HW2 := Aside0.mk hw2
  clear hb2 hk2 hw2
  have HL2 := Aside0.mk (show (l ++ catL [⟨#[9]⟩]).length = l.length + 1 by rw [List.length_append]; rfl)
  obtain ⟨l2, hl2⟩ : ∃ l2, l2 = l ++ catL [⟨#[9]⟩] := ⟨_, rfl⟩
  rw [← hl2] at HB2 HL2
  have HE2 := Aside0.mk hl2
  clear hl2
  go_wp2_with fail
  go_at_call 94
  refine (pnumber.calls base b l2 n w2 HB2.out HBB.out HN.out (by have := HL.out; have := HL2.out; omega)).mono ?_
  rintro e w3 ⟨rfl, hb3, hk3, hw3⟩
  have HB3 := Aside0.mk hb3
  have HK3 := Aside0.mk (HK2.out.trans hk3)
  have HW3 := Aside0.mk (HW2.out.trans hw3)
  have HL3 := Aside0.mk (show (l2 ++ decN n).length ≤ l2.length + 10 by rw [List.length_append]; have := decN_len n HN.out; omega)
  clear hb3 hk3 hw3 HK2 HW2
  obtain ⟨l3, hl3⟩ : ∃ l3, l3 = l2 ++ decN n := ⟨_, rfl⟩
  rw [← hl3] at HB3 HL3
  have HE3 := Aside0.mk hl3
  clear hl3
  go_wp2_with fail
  go_at_call 70
  have HT := Aside0.mk (lits_new base b w3.heap.size l3 [⟨#[32]⟩] w3 HB3.out HBB.out rfl (show 1 ≤ 9 by decide) (by
    have := HL.out; have := HL2.out; have := HL3.out
    have e : (catL [⟨#[32]⟩]).length = 1 := rfl
    rw [e]; omega))
  refine (show Calls Try.prog 70 #[.pointer (some ⟨b, 0, none⟩), .slice (some ⟨w3.heap.size, 0, none⟩) 1 1] _ _ from HT.out).mono ?_
  rintro e w4 h4
  have h5 := Wrote.then HK3.out HW3.out h4
  clear h4 HT
  obtain ⟨rfl, hb4, hk4, hw4⟩ := h5
  have HB4 := Aside0.mk hb4
  have HK4 := Aside0.mk hk4
  have HW4 := Aside0.mk hw4
  clear hb4 hk4 hw4 HK3 HW3
  have HL4 := Aside0.mk (show (l3 ++ catL [⟨#[32]⟩]).length = l3.length + 1 by rw [List.length_append]; rfl)
  obtain ⟨l4, hl4⟩ : ∃ l4, l4 = l3 ++ catL [⟨#[32]⟩] := ⟨_, rfl⟩
  rw [← hl4] at HB4 HL4
  have HE4 := Aside0.mk hl4
  clear hl4
  go_wp2_with fail
  go_at_call 93
  refine (pname_no.calls base b s w4 (Nat.le_trans HBB.out (Nat.le_of_lt HB4.out.lt)) HS.out).mono ?_
  rintro e wz h4
  have h5 := Stop.then (HK4.out) (HW4.out) h4
  obtain ⟨rfl, h6, h7⟩ := h5
  exact ⟨rfl, rfl, h6, h7⟩
set_option maxHeartbeats 2000000 in
set_option maxRecDepth 100000 in
theorem ppart_bad.calls (base b : Nat) (l : List UInt8) (n : Int) (s : ByteArray) (w : World) (h : Bld 108 base b l [] w) (hbb : base ≤ b) (hn : ¬ (0 ≤ n ∧ n ≤ 999999999))  (hlen : l.length + 60 ≤ 100000000) :
    Calls Try.prog 69 #[.pointer (some ⟨b, 0, none⟩), .int .i64 n, .string s] w (Stop base b w 4) := by
  have HB := Aside0.mk h
  have HS : Aside0 True := ⟨trivial⟩
  have HN := Aside0.mk hn
  have HL := Aside0.mk hlen
  have HBB := Aside0.mk hbb
  clear h hlen hbb hn
  unfold Stop
  go_enter Try.func69, Try.ntmps69
  go_wp2_with fail
  go_at_call 70
  have HT := Aside0.mk (lits_new base b w.heap.size l [⟨#[9]⟩] w HB.out HBB.out rfl (show 1 ≤ 9 by decide) (by
    have := HL.out
    have e : (catL [⟨#[9]⟩]).length = 1 := rfl
    rw [e]; omega))
  refine (show Calls Try.prog 70 #[.pointer (some ⟨b, 0, none⟩), .slice (some ⟨w.heap.size, 0, none⟩) 1 1] _ _ from HT.out).mono ?_
  rintro e w2 ⟨rfl, hb2, hk2, hw2⟩
  clear HT
  have HB2 := Aside0.mk hb2
  have HK2 := Aside0.mk hk2
  have HW2 := Aside0.mk hw2
  clear hb2 hk2 hw2
  have HL2 := Aside0.mk (show (l ++ catL [⟨#[9]⟩]).length = l.length + 1 by rw [List.length_append]; rfl)
  obtain ⟨l2, hl2⟩ : ∃ l2, l2 = l ++ catL [⟨#[9]⟩] := ⟨_, rfl⟩
  rw [← hl2] at HB2 HL2
  have HE2 := Aside0.mk hl2
  clear hl2
  go_wp2_with fail
  go_at_call 94
  refine (pnumber_no.calls base b n w2 (Nat.le_trans HBB.out (Nat.le_of_lt HB2.out.lt)) HN.out).mono ?_
  rintro e wz h4
  have h5 := Stop.then (HK2.out) (HW2.out) h4
  obtain ⟨rfl, h6, h7⟩ := h5
  exact ⟨rfl, rfl, h6, h7⟩
set_option maxHeartbeats 4000000 in
set_option maxRecDepth 100000 in
theorem pmethod1a.calls (K base b : Nat) (l : List UInt8) (nm : ByteArray) (t u : S50) (A : Option Addr) (c : Nat) (B : Option Addr) (d : Nat) (w : World) (h : Bld 108 base b l [] w) (hbb : base ≤ b) (hs : nameB nm = false)
    (hlen : l.length + 100 ≤ 100000000) :
    Calls Try.prog 72 #[.pointer (some ⟨b, 0, none⟩), .agg #[.string nm, .bool true, .int .i64 t.f0, .string t.f1, .slice A t.f2.length c, .int .i64 u.f0, .string u.f1, .slice B u.f2.length d]] w (Stop base b w 31) := by
  have HB := Aside0.mk h
  have HS := Aside0.mk hs
  have HL := Aside0.mk hlen
  have HBB := Aside0.mk hbb
  clear h hs hlen hbb
  obtain ⟨n, hn⟩ : ∃ n, n = t.f2.length := ⟨_, rfl⟩
  obtain ⟨m, hm⟩ : ∃ m, m = u.f2.length := ⟨_, rfl⟩
  rw [← hn, ← hm]
  clear hn hm
  unfold Stop
  go_enter Try.func72, Try.ntmps72
  go_wp2_with (first | ((with_reducible refine gate_dst (N := 3) rfl ?_); refine box_event ?hg (N := 3) ?hd (cs := #[.string nm, .bool true, .int .i64 t.f0, .string t.f1, .slice A n c, .int .i64 u.f0, .string u.f1, .slice B m d]) (t := 94) ?hr ?_; (case hd => rfl); (case hg => rfl); (case hr => first | (go_simp; done) | (go_simp; rfl)); intro g2 hg1 w0 hbox hb; have K0 := Aside0.mk hbox; have HW0 := Aside0.mk hb; have HG := Aside0.mk hg1; clear hg1 hbox hb; have z1 := zcell K0.out 1 _ rfl))
  clear z1
  have hgb : g2 ≠ b := by have := HG.out; have := HB.out.lt; omega
  have HB0 := Aside0.mk (HB.out.below HW0.out)
  have HK0 := Aside0.mk (KpB.of_below (b := b) HW0.out)
  have HWB := Aside0.mk (HW0.out.mono (Nat.le_trans HBB.out (Nat.le_of_lt HB.out.lt)))
  clear HW0
  go_at_call 70
  have HT := Aside0.mk (lits_new base b w0.heap.size l [⟨#[9, 111, 110, 99, 101, 32]⟩] w0 HB0.out HBB.out rfl (show 1 ≤ 9 by decide) (by
    have := HL.out; 
    have e : (catL [⟨#[9, 111, 110, 99, 101, 32]⟩]).length = 6 := rfl
    rw [e]; omega))
  refine (show Calls Try.prog 70 #[.pointer (some ⟨b, 0, none⟩), .slice (some ⟨w0.heap.size, 0, none⟩) 1 1] _ _ from HT.out).mono ?_
  rintro e w1 h4
  have hk9 := h4.2.2.1
  have h5 := Wrote.then (HK0.out) (HWB.out) h4
  clear h4
  obtain ⟨rfl, hb_, hk_, hw_⟩ := h5
  clear HT
  have HB1 := Aside0.mk hb_
  have HK1 := Aside0.mk hk_
  have HW1 := Aside0.mk hw_
  clear hb_ hk_ hw_
  have HL1 := Aside0.mk (show (l ++ catL [⟨#[9, 111, 110, 99, 101, 32]⟩]).length = l.length + 6 by rw [List.length_append]; rfl)
  obtain ⟨l1, hl⟩ : ∃ l_, l_ = l ++ catL [⟨#[9, 111, 110, 99, 101, 32]⟩] := ⟨_, rfl⟩
  rw [← hl] at HB1 HL1
  have HE1 := Aside0.mk hl
  clear hl
  have K1 := Aside0.mk (hk9.keep _ _ _ _ K0.out hgb (by decide))
  clear hk9 K0
  have z0 := zcell (K1.out) 0 _ rfl
  go_wp2_with fail
  clear z0
  go_at_call 93
  refine (pname_no.calls base b nm w1 (Nat.le_trans HBB.out (Nat.le_of_lt HB1.out.lt)) HS.out).mono ?_
  rintro e wz h4
  have h5 := Stop.then (HK1.out) (HW1.out) h4
  obtain ⟨rfl, h6, h7⟩ := h5
  exact ⟨rfl, rfl, h6, h7⟩
set_option maxHeartbeats 4000000 in
set_option maxRecDepth 100000 in
theorem pmethod1b.calls (K base b : Nat) (l : List UInt8) (k : Int) (nm : ByteArray) (t u : S50) (A : Option Addr) (c : Nat) (B : Option Addr) (d : Nat) (w : World) (h : Bld 108 base b l [] w) (hbb : base ≤ b) (hs : nameB nm = true)
    (hF : Kd.F k50 w (fun k => k < base) A t.f2.length t.f2) (hc : t.f2.length ≤ c) (hS : parse_Shape.f K t.f0 t.f1 t.f2 = some k) (hk : k ≠ 0)
    (hlen : l.length + nm.size + 100 ≤ 100000000) :
    Calls Try.prog 72 #[.pointer (some ⟨b, 0, none⟩), .agg #[.string nm, .bool true, .int .i64 t.f0, .string t.f1, .slice A t.f2.length c, .int .i64 u.f0, .string u.f1, .slice B u.f2.length d]] w (Stop base b w k) := by
  have HB := Aside0.mk h
  have HS := Aside0.mk hs
  have HL := Aside0.mk hlen
  have HBB := Aside0.mk hbb
  have HTY := Aside0.mk (fun (W : World) (hB : base ≤ W.heap.size) (hw : Below base w W) => ptyped_no.calls K base b t k A c W hB (F_on hF hw) hc hS hk)
  clear h hs hlen hbb hF hc hS
  obtain ⟨n, hn⟩ : ∃ n, n = t.f2.length := ⟨_, rfl⟩
  obtain ⟨m, hm⟩ : ∃ m, m = u.f2.length := ⟨_, rfl⟩
  rw [← hn, ← hm]
  rw [← hn] at HTY
  clear hn hm
  unfold Stop
  go_enter Try.func72, Try.ntmps72
  go_wp2_with (first | ((with_reducible refine gate_dst (N := 3) rfl ?_); refine box_event ?hg (N := 3) ?hd (cs := #[.string nm, .bool true, .int .i64 t.f0, .string t.f1, .slice A n c, .int .i64 u.f0, .string u.f1, .slice B m d]) (t := 94) ?hr ?_; (case hd => rfl); (case hg => rfl); (case hr => first | (go_simp; done) | (go_simp; rfl)); intro g2 hg1 w0 hbox hb; have K0 := Aside0.mk hbox; have HW0 := Aside0.mk hb; have HG := Aside0.mk hg1; clear hg1 hbox hb; have z1 := zcell K0.out 1 _ rfl))
  clear z1
  have hgb : g2 ≠ b := by have := HG.out; have := HB.out.lt; omega
  have HB0 := Aside0.mk (HB.out.below HW0.out)
  have HK0 := Aside0.mk (KpB.of_below (b := b) HW0.out)
  have HWB := Aside0.mk (HW0.out.mono (Nat.le_trans HBB.out (Nat.le_of_lt HB.out.lt)))
  clear HW0
  go_at_call 70
  have HT := Aside0.mk (lits_new base b w0.heap.size l [⟨#[9, 111, 110, 99, 101, 32]⟩] w0 HB0.out HBB.out rfl (show 1 ≤ 9 by decide) (by
    have := HL.out; 
    have e : (catL [⟨#[9, 111, 110, 99, 101, 32]⟩]).length = 6 := rfl
    rw [e]; omega))
  refine (show Calls Try.prog 70 #[.pointer (some ⟨b, 0, none⟩), .slice (some ⟨w0.heap.size, 0, none⟩) 1 1] _ _ from HT.out).mono ?_
  rintro e w1 h4
  have hk9 := h4.2.2.1
  have h5 := Wrote.then (HK0.out) (HWB.out) h4
  clear h4
  obtain ⟨rfl, hb_, hk_, hw_⟩ := h5
  clear HT
  have HB1 := Aside0.mk hb_
  have HK1 := Aside0.mk hk_
  have HW1 := Aside0.mk hw_
  clear hb_ hk_ hw_
  have HL1 := Aside0.mk (show (l ++ catL [⟨#[9, 111, 110, 99, 101, 32]⟩]).length = l.length + 6 by rw [List.length_append]; rfl)
  obtain ⟨l1, hl⟩ : ∃ l_, l_ = l ++ catL [⟨#[9, 111, 110, 99, 101, 32]⟩] := ⟨_, rfl⟩
  rw [← hl] at HB1 HL1
  have HE1 := Aside0.mk hl
  clear hl
  have K1 := Aside0.mk (hk9.keep _ _ _ _ K0.out hgb (by decide))
  clear hk9 K0
  have z0 := zcell (K1.out) 0 _ rfl
  go_wp2_with fail
  clear z0
  go_at_call 93
  refine (pname.calls base b l1 nm w1 HB1.out HBB.out HS.out (by have := HL.out; have := HL1.out; omega)).mono ?_
  rintro e w2 h4
  have hk9 := h4.2.2.1
  have h5 := Wrote.then (HK1.out) (HW1.out) h4
  clear h4
  obtain ⟨rfl, hb_, hk_, hw_⟩ := h5
  have HB2 := Aside0.mk hb_
  have HK2 := Aside0.mk hk_
  have HW2 := Aside0.mk hw_
  clear hb_ hk_ hw_ HK1 HW1
  have HL2 := Aside0.mk (show (l1 ++ nm.data.toList).length = l1.length + nm.size by rw [List.length_append]; rw [sz_list])
  obtain ⟨l2, hl⟩ : ∃ l_, l_ = l1 ++ nm.data.toList := ⟨_, rfl⟩
  rw [← hl] at HB2 HL2
  have HE2 := Aside0.mk hl
  clear hl
  have K2 := Aside0.mk (hk9.keep _ _ _ _ K1.out hgb (by decide))
  clear hk9 K1
  go_wp2_with fail
  go_at_call 70
  have HT := Aside0.mk (lits_new base b w2.heap.size l2 [⟨#[40]⟩] w2 HB2.out HBB.out rfl (show 1 ≤ 9 by decide) (by
    have := HL.out; have := HL1.out; have := HL2.out; 
    have e : (catL [⟨#[40]⟩]).length = 1 := rfl
    rw [e]; omega))
  refine (show Calls Try.prog 70 #[.pointer (some ⟨b, 0, none⟩), .slice (some ⟨w2.heap.size, 0, none⟩) 1 1] _ _ from HT.out).mono ?_
  rintro e w3 h4
  have hk9 := h4.2.2.1
  have h5 := Wrote.then (HK2.out) (HW2.out) h4
  clear h4
  obtain ⟨rfl, hb_, hk_, hw_⟩ := h5
  clear HT
  have HB3 := Aside0.mk hb_
  have HK3 := Aside0.mk hk_
  have HW3 := Aside0.mk hw_
  clear hb_ hk_ hw_ HK2 HW2
  have HL3 := Aside0.mk (show (l2 ++ catL [⟨#[40]⟩]).length = l2.length + 1 by rw [List.length_append]; rfl)
  obtain ⟨l3, hl⟩ : ∃ l_, l_ = l2 ++ catL [⟨#[40]⟩] := ⟨_, rfl⟩
  rw [← hl] at HB3 HL3
  have HE3 := Aside0.mk hl
  clear hl
  have K3 := Aside0.mk (hk9.keep _ _ _ _ K2.out hgb (by decide))
  clear hk9 K2
  have z0 := zcell (K3.out) 2 _ rfl
  have z1 := zcell (K3.out) 3 _ rfl
  have z2 := zcell (K3.out) 4 _ rfl
  go_wp2_with fail
  clear z0 z1 z2
  go_at_call 71
  refine (HTY.out w3 (Nat.le_trans HBB.out (Nat.le_of_lt HB3.out.lt)) (HW3.out)).mono ?_
  rintro e wz h4
  have h5 := Stop.then (HK3.out) (HW3.out) h4
  obtain ⟨rfl, h6, h7⟩ := h5
  exact ⟨rfl, rfl, h6, h7⟩
set_option maxHeartbeats 4000000 in
set_option maxRecDepth 100000 in
theorem pmethod1c.calls (K base b : Nat) (l : List UInt8) (k : Int) (nm : ByteArray) (t u : S50) (s1 : ByteArray) (A : Option Addr) (c : Nat) (B : Option Addr) (d : Nat) (w : World) (h : Bld 108 base b l [] w) (hbb : base ≤ b) (hs : nameB nm = true)
    (hF : Kd.F k50 w (fun k => k < base) A t.f2.length t.f2) (hc : t.f2.length ≤ c) (hS : parse_Shape.f K t.f0 t.f1 t.f2 = some 0) (hW : parse_word.f K t.f0 t.f1 t.f2 = some s1)
    (hF2 : Kd.F k50 w (fun k => k < base) B u.f2.length u.f2) (hc2 : u.f2.length ≤ d) (hS2 : parse_Shape.f K u.f0 u.f1 u.f2 = some k) (hk : k ≠ 0) (hlen : l.length + nm.size + s1.size + 100 ≤ 100000000) :
    Calls Try.prog 72 #[.pointer (some ⟨b, 0, none⟩), .agg #[.string nm, .bool true, .int .i64 t.f0, .string t.f1, .slice A t.f2.length c, .int .i64 u.f0, .string u.f1, .slice B u.f2.length d]] w (Stop base b w k) := by
  have HB := Aside0.mk h
  have HS := Aside0.mk hs
  have HL := Aside0.mk hlen
  have HBB := Aside0.mk hbb
  have HTY := Aside0.mk (fun (l' : List UInt8) (W : World) (hB : Bld 108 base b l' [] W) (hw : Below base w W) (hl : l'.length + s1.size + 60 ≤ 100000000) => ptyped.calls K base b l' t s1 A c W hB hbb (F_on hF hw) hc hS hW hl)
  have HTU := Aside0.mk (fun (W : World) (hB : base ≤ W.heap.size) (hw : Below base w W) => ptyped_no.calls K base b u k B d W hB (F_on hF2 hw) hc2 hS2 hk)
  clear h hs hlen hbb hF hc hS hW hF2 hc2 hS2
  obtain ⟨n, hn⟩ : ∃ n, n = t.f2.length := ⟨_, rfl⟩
  obtain ⟨m, hm⟩ : ∃ m, m = u.f2.length := ⟨_, rfl⟩
  rw [← hn, ← hm]
  rw [← hn] at HTY
  rw [← hm] at HTU
  clear hn hm
  unfold Stop
  go_enter Try.func72, Try.ntmps72
  go_wp2_with (first | ((with_reducible refine gate_dst (N := 3) rfl ?_); refine box_event ?hg (N := 3) ?hd (cs := #[.string nm, .bool true, .int .i64 t.f0, .string t.f1, .slice A n c, .int .i64 u.f0, .string u.f1, .slice B m d]) (t := 94) ?hr ?_; (case hd => rfl); (case hg => rfl); (case hr => first | (go_simp; done) | (go_simp; rfl)); intro g2 hg1 w0 hbox hb; have K0 := Aside0.mk hbox; have HW0 := Aside0.mk hb; have HG := Aside0.mk hg1; clear hg1 hbox hb; have z1 := zcell K0.out 1 _ rfl))
  clear z1
  have hgb : g2 ≠ b := by have := HG.out; have := HB.out.lt; omega
  have HB0 := Aside0.mk (HB.out.below HW0.out)
  have HK0 := Aside0.mk (KpB.of_below (b := b) HW0.out)
  have HWB := Aside0.mk (HW0.out.mono (Nat.le_trans HBB.out (Nat.le_of_lt HB.out.lt)))
  clear HW0
  go_at_call 70
  have HT := Aside0.mk (lits_new base b w0.heap.size l [⟨#[9, 111, 110, 99, 101, 32]⟩] w0 HB0.out HBB.out rfl (show 1 ≤ 9 by decide) (by
    have := HL.out; 
    have e : (catL [⟨#[9, 111, 110, 99, 101, 32]⟩]).length = 6 := rfl
    rw [e]; omega))
  refine (show Calls Try.prog 70 #[.pointer (some ⟨b, 0, none⟩), .slice (some ⟨w0.heap.size, 0, none⟩) 1 1] _ _ from HT.out).mono ?_
  rintro e w1 h4
  have hk9 := h4.2.2.1
  have h5 := Wrote.then (HK0.out) (HWB.out) h4
  clear h4
  obtain ⟨rfl, hb_, hk_, hw_⟩ := h5
  clear HT
  have HB1 := Aside0.mk hb_
  have HK1 := Aside0.mk hk_
  have HW1 := Aside0.mk hw_
  clear hb_ hk_ hw_
  have HL1 := Aside0.mk (show (l ++ catL [⟨#[9, 111, 110, 99, 101, 32]⟩]).length = l.length + 6 by rw [List.length_append]; rfl)
  obtain ⟨l1, hl⟩ : ∃ l_, l_ = l ++ catL [⟨#[9, 111, 110, 99, 101, 32]⟩] := ⟨_, rfl⟩
  rw [← hl] at HB1 HL1
  have HE1 := Aside0.mk hl
  clear hl
  have K1 := Aside0.mk (hk9.keep _ _ _ _ K0.out hgb (by decide))
  clear hk9 K0
  have z0 := zcell (K1.out) 0 _ rfl
  go_wp2_with fail
  clear z0
  go_at_call 93
  refine (pname.calls base b l1 nm w1 HB1.out HBB.out HS.out (by have := HL.out; have := HL1.out; omega)).mono ?_
  rintro e w2 h4
  have hk9 := h4.2.2.1
  have h5 := Wrote.then (HK1.out) (HW1.out) h4
  clear h4
  obtain ⟨rfl, hb_, hk_, hw_⟩ := h5
  have HB2 := Aside0.mk hb_
  have HK2 := Aside0.mk hk_
  have HW2 := Aside0.mk hw_
  clear hb_ hk_ hw_ HK1 HW1
  have HL2 := Aside0.mk (show (l1 ++ nm.data.toList).length = l1.length + nm.size by rw [List.length_append]; rw [sz_list])
  obtain ⟨l2, hl⟩ : ∃ l_, l_ = l1 ++ nm.data.toList := ⟨_, rfl⟩
  rw [← hl] at HB2 HL2
  have HE2 := Aside0.mk hl
  clear hl
  have K2 := Aside0.mk (hk9.keep _ _ _ _ K1.out hgb (by decide))
  clear hk9 K1
  go_wp2_with fail
  go_at_call 70
  have HT := Aside0.mk (lits_new base b w2.heap.size l2 [⟨#[40]⟩] w2 HB2.out HBB.out rfl (show 1 ≤ 9 by decide) (by
    have := HL.out; have := HL1.out; have := HL2.out; 
    have e : (catL [⟨#[40]⟩]).length = 1 := rfl
    rw [e]; omega))
  refine (show Calls Try.prog 70 #[.pointer (some ⟨b, 0, none⟩), .slice (some ⟨w2.heap.size, 0, none⟩) 1 1] _ _ from HT.out).mono ?_
  rintro e w3 h4
  have hk9 := h4.2.2.1
  have h5 := Wrote.then (HK2.out) (HW2.out) h4
  clear h4
  obtain ⟨rfl, hb_, hk_, hw_⟩ := h5
  clear HT
  have HB3 := Aside0.mk hb_
  have HK3 := Aside0.mk hk_
  have HW3 := Aside0.mk hw_
  clear hb_ hk_ hw_ HK2 HW2
  have HL3 := Aside0.mk (show (l2 ++ catL [⟨#[40]⟩]).length = l2.length + 1 by rw [List.length_append]; rfl)
  obtain ⟨l3, hl⟩ : ∃ l_, l_ = l2 ++ catL [⟨#[40]⟩] := ⟨_, rfl⟩
  rw [← hl] at HB3 HL3
  have HE3 := Aside0.mk hl
  clear hl
  have K3 := Aside0.mk (hk9.keep _ _ _ _ K2.out hgb (by decide))
  clear hk9 K2
  have z0 := zcell (K3.out) 2 _ rfl
  have z1 := zcell (K3.out) 3 _ rfl
  have z2 := zcell (K3.out) 4 _ rfl
  go_wp2_with fail
  clear z0 z1 z2
  go_at_call 71
  refine (HTY.out l3 w3 HB3.out (HW3.out) (by have := HL.out; have := HL1.out; have := HL2.out; have := HL3.out; omega)).mono ?_
  rintro e w4 h4
  have hk9 := h4.2.2.1
  have h5 := Wrote.then (HK3.out) (HW3.out) h4
  clear h4
  obtain ⟨rfl, hb_, hk_, hw_⟩ := h5
  have HB4 := Aside0.mk hb_
  have HK4 := Aside0.mk hk_
  have HW4 := Aside0.mk hw_
  clear hb_ hk_ hw_ HK3 HW3
  have HL4 := Aside0.mk (show (l3 ++ s1.data.toList).length = l3.length + s1.size by rw [List.length_append]; rw [sz_list])
  obtain ⟨l4, hl⟩ : ∃ l_, l_ = l3 ++ s1.data.toList := ⟨_, rfl⟩
  rw [← hl] at HB4 HL4
  have HE4 := Aside0.mk hl
  clear hl
  have K4 := Aside0.mk (hk9.keep _ _ _ _ K3.out hgb (by decide))
  clear hk9 K3
  go_wp2_with fail
  go_at_call 70
  have HT := Aside0.mk (lits_new base b w4.heap.size l4 [⟨#[41, 32]⟩] w4 HB4.out HBB.out rfl (show 1 ≤ 9 by decide) (by
    have := HL.out; have := HL1.out; have := HL2.out; have := HL3.out; have := HL4.out; 
    have e : (catL [⟨#[41, 32]⟩]).length = 2 := rfl
    rw [e]; omega))
  refine (show Calls Try.prog 70 #[.pointer (some ⟨b, 0, none⟩), .slice (some ⟨w4.heap.size, 0, none⟩) 1 1] _ _ from HT.out).mono ?_
  rintro e w5 h4
  have hk9 := h4.2.2.1
  have h5 := Wrote.then (HK4.out) (HW4.out) h4
  clear h4
  obtain ⟨rfl, hb_, hk_, hw_⟩ := h5
  clear HT
  have HB5 := Aside0.mk hb_
  have HK5 := Aside0.mk hk_
  have HW5 := Aside0.mk hw_
  clear hb_ hk_ hw_ HK4 HW4
  have HL5 := Aside0.mk (show (l4 ++ catL [⟨#[41, 32]⟩]).length = l4.length + 2 by rw [List.length_append]; rfl)
  obtain ⟨l5, hl⟩ : ∃ l_, l_ = l4 ++ catL [⟨#[41, 32]⟩] := ⟨_, rfl⟩
  rw [← hl] at HB5 HL5
  have HE5 := Aside0.mk hl
  clear hl
  have K5 := Aside0.mk (hk9.keep _ _ _ _ K4.out hgb (by decide))
  clear hk9 K4
  have z0 := zcell (K5.out) 5 _ rfl
  have z1 := zcell (K5.out) 6 _ rfl
  have z2 := zcell (K5.out) 7 _ rfl
  go_wp2_with fail
  clear z0 z1 z2
  go_at_call 71
  refine (HTU.out w5 (Nat.le_trans HBB.out (Nat.le_of_lt HB5.out.lt)) (HW5.out)).mono ?_
  rintro e wz h4
  have h5 := Stop.then (HK5.out) (HW5.out) h4
  obtain ⟨rfl, h6, h7⟩ := h5
  exact ⟨rfl, rfl, h6, h7⟩
set_option maxHeartbeats 4000000 in
set_option maxRecDepth 100000 in
theorem pmethod0a.calls (K base b : Nat) (l : List UInt8) (nm : ByteArray) (t u : S50) (A : Option Addr) (c : Nat) (B : Option Addr) (d : Nat) (w : World) (h : Bld 108 base b l [] w) (hbb : base ≤ b) (hs : nameB nm = false)
    (hlen : l.length + 100 ≤ 100000000) :
    Calls Try.prog 72 #[.pointer (some ⟨b, 0, none⟩), .agg #[.string nm, .bool false, .int .i64 t.f0, .string t.f1, .slice A t.f2.length c, .int .i64 u.f0, .string u.f1, .slice B u.f2.length d]] w (Stop base b w 31) := by
  have HB := Aside0.mk h
  have HS := Aside0.mk hs
  have HL := Aside0.mk hlen
  have HBB := Aside0.mk hbb
  clear h hs hlen hbb
  obtain ⟨n, hn⟩ : ∃ n, n = t.f2.length := ⟨_, rfl⟩
  obtain ⟨m, hm⟩ : ∃ m, m = u.f2.length := ⟨_, rfl⟩
  rw [← hn, ← hm]
  clear hn hm
  unfold Stop
  go_enter Try.func72, Try.ntmps72
  go_wp2_with (first | ((with_reducible refine gate_dst (N := 3) rfl ?_); refine box_event ?hg (N := 3) ?hd (cs := #[.string nm, .bool false, .int .i64 t.f0, .string t.f1, .slice A n c, .int .i64 u.f0, .string u.f1, .slice B m d]) (t := 94) ?hr ?_; (case hd => rfl); (case hg => rfl); (case hr => first | (go_simp; done) | (go_simp; rfl)); intro g2 hg1 w0 hbox hb; have K0 := Aside0.mk hbox; have HW0 := Aside0.mk hb; have HG := Aside0.mk hg1; clear hg1 hbox hb; have z1 := zcell K0.out 1 _ rfl))
  clear z1
  have hgb : g2 ≠ b := by have := HG.out; have := HB.out.lt; omega
  have HB0 := Aside0.mk (HB.out.below HW0.out)
  have HK0 := Aside0.mk (KpB.of_below (b := b) HW0.out)
  have HWB := Aside0.mk (HW0.out.mono (Nat.le_trans HBB.out (Nat.le_of_lt HB.out.lt)))
  clear HW0
  go_at_call 70
  have HT := Aside0.mk (lits_new base b w0.heap.size l [⟨#[9, 114, 101, 97, 100, 32]⟩] w0 HB0.out HBB.out rfl (show 1 ≤ 9 by decide) (by
    have := HL.out; 
    have e : (catL [⟨#[9, 114, 101, 97, 100, 32]⟩]).length = 6 := rfl
    rw [e]; omega))
  refine (show Calls Try.prog 70 #[.pointer (some ⟨b, 0, none⟩), .slice (some ⟨w0.heap.size, 0, none⟩) 1 1] _ _ from HT.out).mono ?_
  rintro e w1 h4
  have hk9 := h4.2.2.1
  have h5 := Wrote.then (HK0.out) (HWB.out) h4
  clear h4
  obtain ⟨rfl, hb_, hk_, hw_⟩ := h5
  clear HT
  have HB1 := Aside0.mk hb_
  have HK1 := Aside0.mk hk_
  have HW1 := Aside0.mk hw_
  clear hb_ hk_ hw_
  have HL1 := Aside0.mk (show (l ++ catL [⟨#[9, 114, 101, 97, 100, 32]⟩]).length = l.length + 6 by rw [List.length_append]; rfl)
  obtain ⟨l1, hl⟩ : ∃ l_, l_ = l ++ catL [⟨#[9, 114, 101, 97, 100, 32]⟩] := ⟨_, rfl⟩
  rw [← hl] at HB1 HL1
  have HE1 := Aside0.mk hl
  clear hl
  have K1 := Aside0.mk (hk9.keep _ _ _ _ K0.out hgb (by decide))
  clear hk9 K0
  have z0 := zcell (K1.out) 0 _ rfl
  go_wp2_with fail
  clear z0
  go_at_call 93
  refine (pname_no.calls base b nm w1 (Nat.le_trans HBB.out (Nat.le_of_lt HB1.out.lt)) HS.out).mono ?_
  rintro e wz h4
  have h5 := Stop.then (HK1.out) (HW1.out) h4
  obtain ⟨rfl, h6, h7⟩ := h5
  exact ⟨rfl, rfl, h6, h7⟩
set_option maxHeartbeats 4000000 in
set_option maxRecDepth 100000 in
theorem pmethod0b.calls (K base b : Nat) (l : List UInt8) (k : Int) (nm : ByteArray) (t u : S50) (A : Option Addr) (c : Nat) (B : Option Addr) (d : Nat) (w : World) (h : Bld 108 base b l [] w) (hbb : base ≤ b) (hs : nameB nm = true)
    (hF : Kd.F k50 w (fun k => k < base) A t.f2.length t.f2) (hc : t.f2.length ≤ c) (hS : parse_Shape.f K t.f0 t.f1 t.f2 = some k) (hk : k ≠ 0)
    (hlen : l.length + nm.size + 100 ≤ 100000000) :
    Calls Try.prog 72 #[.pointer (some ⟨b, 0, none⟩), .agg #[.string nm, .bool false, .int .i64 t.f0, .string t.f1, .slice A t.f2.length c, .int .i64 u.f0, .string u.f1, .slice B u.f2.length d]] w (Stop base b w k) := by
  have HB := Aside0.mk h
  have HS := Aside0.mk hs
  have HL := Aside0.mk hlen
  have HBB := Aside0.mk hbb
  have HTY := Aside0.mk (fun (W : World) (hB : base ≤ W.heap.size) (hw : Below base w W) => ptyped_no.calls K base b t k A c W hB (F_on hF hw) hc hS hk)
  clear h hs hlen hbb hF hc hS
  obtain ⟨n, hn⟩ : ∃ n, n = t.f2.length := ⟨_, rfl⟩
  obtain ⟨m, hm⟩ : ∃ m, m = u.f2.length := ⟨_, rfl⟩
  rw [← hn, ← hm]
  rw [← hn] at HTY
  clear hn hm
  unfold Stop
  go_enter Try.func72, Try.ntmps72
  go_wp2_with (first | ((with_reducible refine gate_dst (N := 3) rfl ?_); refine box_event ?hg (N := 3) ?hd (cs := #[.string nm, .bool false, .int .i64 t.f0, .string t.f1, .slice A n c, .int .i64 u.f0, .string u.f1, .slice B m d]) (t := 94) ?hr ?_; (case hd => rfl); (case hg => rfl); (case hr => first | (go_simp; done) | (go_simp; rfl)); intro g2 hg1 w0 hbox hb; have K0 := Aside0.mk hbox; have HW0 := Aside0.mk hb; have HG := Aside0.mk hg1; clear hg1 hbox hb; have z1 := zcell K0.out 1 _ rfl))
  clear z1
  have hgb : g2 ≠ b := by have := HG.out; have := HB.out.lt; omega
  have HB0 := Aside0.mk (HB.out.below HW0.out)
  have HK0 := Aside0.mk (KpB.of_below (b := b) HW0.out)
  have HWB := Aside0.mk (HW0.out.mono (Nat.le_trans HBB.out (Nat.le_of_lt HB.out.lt)))
  clear HW0
  go_at_call 70
  have HT := Aside0.mk (lits_new base b w0.heap.size l [⟨#[9, 114, 101, 97, 100, 32]⟩] w0 HB0.out HBB.out rfl (show 1 ≤ 9 by decide) (by
    have := HL.out; 
    have e : (catL [⟨#[9, 114, 101, 97, 100, 32]⟩]).length = 6 := rfl
    rw [e]; omega))
  refine (show Calls Try.prog 70 #[.pointer (some ⟨b, 0, none⟩), .slice (some ⟨w0.heap.size, 0, none⟩) 1 1] _ _ from HT.out).mono ?_
  rintro e w1 h4
  have hk9 := h4.2.2.1
  have h5 := Wrote.then (HK0.out) (HWB.out) h4
  clear h4
  obtain ⟨rfl, hb_, hk_, hw_⟩ := h5
  clear HT
  have HB1 := Aside0.mk hb_
  have HK1 := Aside0.mk hk_
  have HW1 := Aside0.mk hw_
  clear hb_ hk_ hw_
  have HL1 := Aside0.mk (show (l ++ catL [⟨#[9, 114, 101, 97, 100, 32]⟩]).length = l.length + 6 by rw [List.length_append]; rfl)
  obtain ⟨l1, hl⟩ : ∃ l_, l_ = l ++ catL [⟨#[9, 114, 101, 97, 100, 32]⟩] := ⟨_, rfl⟩
  rw [← hl] at HB1 HL1
  have HE1 := Aside0.mk hl
  clear hl
  have K1 := Aside0.mk (hk9.keep _ _ _ _ K0.out hgb (by decide))
  clear hk9 K0
  have z0 := zcell (K1.out) 0 _ rfl
  go_wp2_with fail
  clear z0
  go_at_call 93
  refine (pname.calls base b l1 nm w1 HB1.out HBB.out HS.out (by have := HL.out; have := HL1.out; omega)).mono ?_
  rintro e w2 h4
  have hk9 := h4.2.2.1
  have h5 := Wrote.then (HK1.out) (HW1.out) h4
  clear h4
  obtain ⟨rfl, hb_, hk_, hw_⟩ := h5
  have HB2 := Aside0.mk hb_
  have HK2 := Aside0.mk hk_
  have HW2 := Aside0.mk hw_
  clear hb_ hk_ hw_ HK1 HW1
  have HL2 := Aside0.mk (show (l1 ++ nm.data.toList).length = l1.length + nm.size by rw [List.length_append]; rw [sz_list])
  obtain ⟨l2, hl⟩ : ∃ l_, l_ = l1 ++ nm.data.toList := ⟨_, rfl⟩
  rw [← hl] at HB2 HL2
  have HE2 := Aside0.mk hl
  clear hl
  have K2 := Aside0.mk (hk9.keep _ _ _ _ K1.out hgb (by decide))
  clear hk9 K1
  go_wp2_with fail
  go_at_call 70
  have HT := Aside0.mk (lits_new base b w2.heap.size l2 [⟨#[40]⟩] w2 HB2.out HBB.out rfl (show 1 ≤ 9 by decide) (by
    have := HL.out; have := HL1.out; have := HL2.out; 
    have e : (catL [⟨#[40]⟩]).length = 1 := rfl
    rw [e]; omega))
  refine (show Calls Try.prog 70 #[.pointer (some ⟨b, 0, none⟩), .slice (some ⟨w2.heap.size, 0, none⟩) 1 1] _ _ from HT.out).mono ?_
  rintro e w3 h4
  have hk9 := h4.2.2.1
  have h5 := Wrote.then (HK2.out) (HW2.out) h4
  clear h4
  obtain ⟨rfl, hb_, hk_, hw_⟩ := h5
  clear HT
  have HB3 := Aside0.mk hb_
  have HK3 := Aside0.mk hk_
  have HW3 := Aside0.mk hw_
  clear hb_ hk_ hw_ HK2 HW2
  have HL3 := Aside0.mk (show (l2 ++ catL [⟨#[40]⟩]).length = l2.length + 1 by rw [List.length_append]; rfl)
  obtain ⟨l3, hl⟩ : ∃ l_, l_ = l2 ++ catL [⟨#[40]⟩] := ⟨_, rfl⟩
  rw [← hl] at HB3 HL3
  have HE3 := Aside0.mk hl
  clear hl
  have K3 := Aside0.mk (hk9.keep _ _ _ _ K2.out hgb (by decide))
  clear hk9 K2
  have z0 := zcell (K3.out) 2 _ rfl
  have z1 := zcell (K3.out) 3 _ rfl
  have z2 := zcell (K3.out) 4 _ rfl
  go_wp2_with fail
  clear z0 z1 z2
  go_at_call 71
  refine (HTY.out w3 (Nat.le_trans HBB.out (Nat.le_of_lt HB3.out.lt)) (HW3.out)).mono ?_
  rintro e wz h4
  have h5 := Stop.then (HK3.out) (HW3.out) h4
  obtain ⟨rfl, h6, h7⟩ := h5
  exact ⟨rfl, rfl, h6, h7⟩
set_option maxHeartbeats 4000000 in
set_option maxRecDepth 100000 in
theorem pmethod0c.calls (K base b : Nat) (l : List UInt8) (k : Int) (nm : ByteArray) (t u : S50) (s1 : ByteArray) (A : Option Addr) (c : Nat) (B : Option Addr) (d : Nat) (w : World) (h : Bld 108 base b l [] w) (hbb : base ≤ b) (hs : nameB nm = true)
    (hF : Kd.F k50 w (fun k => k < base) A t.f2.length t.f2) (hc : t.f2.length ≤ c) (hS : parse_Shape.f K t.f0 t.f1 t.f2 = some 0) (hW : parse_word.f K t.f0 t.f1 t.f2 = some s1)
    (hF2 : Kd.F k50 w (fun k => k < base) B u.f2.length u.f2) (hc2 : u.f2.length ≤ d) (hS2 : parse_Shape.f K u.f0 u.f1 u.f2 = some k) (hk : k ≠ 0) (hlen : l.length + nm.size + s1.size + 100 ≤ 100000000) :
    Calls Try.prog 72 #[.pointer (some ⟨b, 0, none⟩), .agg #[.string nm, .bool false, .int .i64 t.f0, .string t.f1, .slice A t.f2.length c, .int .i64 u.f0, .string u.f1, .slice B u.f2.length d]] w (Stop base b w k) := by
  have HB := Aside0.mk h
  have HS := Aside0.mk hs
  have HL := Aside0.mk hlen
  have HBB := Aside0.mk hbb
  have HTY := Aside0.mk (fun (l' : List UInt8) (W : World) (hB : Bld 108 base b l' [] W) (hw : Below base w W) (hl : l'.length + s1.size + 60 ≤ 100000000) => ptyped.calls K base b l' t s1 A c W hB hbb (F_on hF hw) hc hS hW hl)
  have HTU := Aside0.mk (fun (W : World) (hB : base ≤ W.heap.size) (hw : Below base w W) => ptyped_no.calls K base b u k B d W hB (F_on hF2 hw) hc2 hS2 hk)
  clear h hs hlen hbb hF hc hS hW hF2 hc2 hS2
  obtain ⟨n, hn⟩ : ∃ n, n = t.f2.length := ⟨_, rfl⟩
  obtain ⟨m, hm⟩ : ∃ m, m = u.f2.length := ⟨_, rfl⟩
  rw [← hn, ← hm]
  rw [← hn] at HTY
  rw [← hm] at HTU
  clear hn hm
  unfold Stop
  go_enter Try.func72, Try.ntmps72
  go_wp2_with (first | ((with_reducible refine gate_dst (N := 3) rfl ?_); refine box_event ?hg (N := 3) ?hd (cs := #[.string nm, .bool false, .int .i64 t.f0, .string t.f1, .slice A n c, .int .i64 u.f0, .string u.f1, .slice B m d]) (t := 94) ?hr ?_; (case hd => rfl); (case hg => rfl); (case hr => first | (go_simp; done) | (go_simp; rfl)); intro g2 hg1 w0 hbox hb; have K0 := Aside0.mk hbox; have HW0 := Aside0.mk hb; have HG := Aside0.mk hg1; clear hg1 hbox hb; have z1 := zcell K0.out 1 _ rfl))
  clear z1
  have hgb : g2 ≠ b := by have := HG.out; have := HB.out.lt; omega
  have HB0 := Aside0.mk (HB.out.below HW0.out)
  have HK0 := Aside0.mk (KpB.of_below (b := b) HW0.out)
  have HWB := Aside0.mk (HW0.out.mono (Nat.le_trans HBB.out (Nat.le_of_lt HB.out.lt)))
  clear HW0
  go_at_call 70
  have HT := Aside0.mk (lits_new base b w0.heap.size l [⟨#[9, 114, 101, 97, 100, 32]⟩] w0 HB0.out HBB.out rfl (show 1 ≤ 9 by decide) (by
    have := HL.out; 
    have e : (catL [⟨#[9, 114, 101, 97, 100, 32]⟩]).length = 6 := rfl
    rw [e]; omega))
  refine (show Calls Try.prog 70 #[.pointer (some ⟨b, 0, none⟩), .slice (some ⟨w0.heap.size, 0, none⟩) 1 1] _ _ from HT.out).mono ?_
  rintro e w1 h4
  have hk9 := h4.2.2.1
  have h5 := Wrote.then (HK0.out) (HWB.out) h4
  clear h4
  obtain ⟨rfl, hb_, hk_, hw_⟩ := h5
  clear HT
  have HB1 := Aside0.mk hb_
  have HK1 := Aside0.mk hk_
  have HW1 := Aside0.mk hw_
  clear hb_ hk_ hw_
  have HL1 := Aside0.mk (show (l ++ catL [⟨#[9, 114, 101, 97, 100, 32]⟩]).length = l.length + 6 by rw [List.length_append]; rfl)
  obtain ⟨l1, hl⟩ : ∃ l_, l_ = l ++ catL [⟨#[9, 114, 101, 97, 100, 32]⟩] := ⟨_, rfl⟩
  rw [← hl] at HB1 HL1
  have HE1 := Aside0.mk hl
  clear hl
  have K1 := Aside0.mk (hk9.keep _ _ _ _ K0.out hgb (by decide))
  clear hk9 K0
  have z0 := zcell (K1.out) 0 _ rfl
  go_wp2_with fail
  clear z0
  go_at_call 93
  refine (pname.calls base b l1 nm w1 HB1.out HBB.out HS.out (by have := HL.out; have := HL1.out; omega)).mono ?_
  rintro e w2 h4
  have hk9 := h4.2.2.1
  have h5 := Wrote.then (HK1.out) (HW1.out) h4
  clear h4
  obtain ⟨rfl, hb_, hk_, hw_⟩ := h5
  have HB2 := Aside0.mk hb_
  have HK2 := Aside0.mk hk_
  have HW2 := Aside0.mk hw_
  clear hb_ hk_ hw_ HK1 HW1
  have HL2 := Aside0.mk (show (l1 ++ nm.data.toList).length = l1.length + nm.size by rw [List.length_append]; rw [sz_list])
  obtain ⟨l2, hl⟩ : ∃ l_, l_ = l1 ++ nm.data.toList := ⟨_, rfl⟩
  rw [← hl] at HB2 HL2
  have HE2 := Aside0.mk hl
  clear hl
  have K2 := Aside0.mk (hk9.keep _ _ _ _ K1.out hgb (by decide))
  clear hk9 K1
  go_wp2_with fail
  go_at_call 70
  have HT := Aside0.mk (lits_new base b w2.heap.size l2 [⟨#[40]⟩] w2 HB2.out HBB.out rfl (show 1 ≤ 9 by decide) (by
    have := HL.out; have := HL1.out; have := HL2.out; 
    have e : (catL [⟨#[40]⟩]).length = 1 := rfl
    rw [e]; omega))
  refine (show Calls Try.prog 70 #[.pointer (some ⟨b, 0, none⟩), .slice (some ⟨w2.heap.size, 0, none⟩) 1 1] _ _ from HT.out).mono ?_
  rintro e w3 h4
  have hk9 := h4.2.2.1
  have h5 := Wrote.then (HK2.out) (HW2.out) h4
  clear h4
  obtain ⟨rfl, hb_, hk_, hw_⟩ := h5
  clear HT
  have HB3 := Aside0.mk hb_
  have HK3 := Aside0.mk hk_
  have HW3 := Aside0.mk hw_
  clear hb_ hk_ hw_ HK2 HW2
  have HL3 := Aside0.mk (show (l2 ++ catL [⟨#[40]⟩]).length = l2.length + 1 by rw [List.length_append]; rfl)
  obtain ⟨l3, hl⟩ : ∃ l_, l_ = l2 ++ catL [⟨#[40]⟩] := ⟨_, rfl⟩
  rw [← hl] at HB3 HL3
  have HE3 := Aside0.mk hl
  clear hl
  have K3 := Aside0.mk (hk9.keep _ _ _ _ K2.out hgb (by decide))
  clear hk9 K2
  have z0 := zcell (K3.out) 2 _ rfl
  have z1 := zcell (K3.out) 3 _ rfl
  have z2 := zcell (K3.out) 4 _ rfl
  go_wp2_with fail
  clear z0 z1 z2
  go_at_call 71
  refine (HTY.out l3 w3 HB3.out (HW3.out) (by have := HL.out; have := HL1.out; have := HL2.out; have := HL3.out; omega)).mono ?_
  rintro e w4 h4
  have hk9 := h4.2.2.1
  have h5 := Wrote.then (HK3.out) (HW3.out) h4
  clear h4
  obtain ⟨rfl, hb_, hk_, hw_⟩ := h5
  have HB4 := Aside0.mk hb_
  have HK4 := Aside0.mk hk_
  have HW4 := Aside0.mk hw_
  clear hb_ hk_ hw_ HK3 HW3
  have HL4 := Aside0.mk (show (l3 ++ s1.data.toList).length = l3.length + s1.size by rw [List.length_append]; rw [sz_list])
  obtain ⟨l4, hl⟩ : ∃ l_, l_ = l3 ++ s1.data.toList := ⟨_, rfl⟩
  rw [← hl] at HB4 HL4
  have HE4 := Aside0.mk hl
  clear hl
  have K4 := Aside0.mk (hk9.keep _ _ _ _ K3.out hgb (by decide))
  clear hk9 K3
  go_wp2_with fail
  go_at_call 70
  have HT := Aside0.mk (lits_new base b w4.heap.size l4 [⟨#[41, 32]⟩] w4 HB4.out HBB.out rfl (show 1 ≤ 9 by decide) (by
    have := HL.out; have := HL1.out; have := HL2.out; have := HL3.out; have := HL4.out; 
    have e : (catL [⟨#[41, 32]⟩]).length = 2 := rfl
    rw [e]; omega))
  refine (show Calls Try.prog 70 #[.pointer (some ⟨b, 0, none⟩), .slice (some ⟨w4.heap.size, 0, none⟩) 1 1] _ _ from HT.out).mono ?_
  rintro e w5 h4
  have hk9 := h4.2.2.1
  have h5 := Wrote.then (HK4.out) (HW4.out) h4
  clear h4
  obtain ⟨rfl, hb_, hk_, hw_⟩ := h5
  clear HT
  have HB5 := Aside0.mk hb_
  have HK5 := Aside0.mk hk_
  have HW5 := Aside0.mk hw_
  clear hb_ hk_ hw_ HK4 HW4
  have HL5 := Aside0.mk (show (l4 ++ catL [⟨#[41, 32]⟩]).length = l4.length + 2 by rw [List.length_append]; rfl)
  obtain ⟨l5, hl⟩ : ∃ l_, l_ = l4 ++ catL [⟨#[41, 32]⟩] := ⟨_, rfl⟩
  rw [← hl] at HB5 HL5
  have HE5 := Aside0.mk hl
  clear hl
  have K5 := Aside0.mk (hk9.keep _ _ _ _ K4.out hgb (by decide))
  clear hk9 K4
  have z0 := zcell (K5.out) 5 _ rfl
  have z1 := zcell (K5.out) 6 _ rfl
  have z2 := zcell (K5.out) 7 _ rfl
  go_wp2_with fail
  clear z0 z1 z2
  go_at_call 71
  refine (HTU.out w5 (Nat.le_trans HBB.out (Nat.le_of_lt HB5.out.lt)) (HW5.out)).mono ?_
  rintro e wz h4
  have h5 := Stop.then (HK5.out) (HW5.out) h4
  obtain ⟨rfl, h6, h7⟩ := h5
  exact ⟨rfl, rfl, h6, h7⟩
/-! Any type has a shape; what may be is of a type that is read again. -/
theorem some_on {α : Type} {f : Nat → Option α} (hm : ∀ k, LeO (f k) (f (k + 1))) {k : Nat} {r : α} (h : f k = some r) : ∀ m, k ≤ m → f m = some r := by
  intro m
  induction m with
  | zero => intro hk; have : k = 0 := by omega
            subst this; exact h
  | succ m ih =>
    intro hk
    by_cases he : k = m + 1
    · subst he; exact h
    · exact hm m r (ih (by omega))
theorem deep_on {a0 : Int} {a1 : ByteArray} {l : List S50} {left : Int} {k : Nat} {r : Int} (h : parse_deep.f k a0 a1 l left = some r) : ∀ m, k ≤ m → parse_deep.f m a0 a1 l left = some r := some_on (f := fun k => parse_deep.f k a0 a1 l left) (fun k => (parse_deep.mono_l k).1 _ _ _ _) h
theorem deepL_on {x1 x5 : Int} {l : List S50} {n i : Int} {k : Nat} {r : Int} (h : parse_deep.l0 k x1 x5 l n i = some r) : ∀ m, k ≤ m → parse_deep.l0 m x1 x5 l n i = some r := some_on (f := fun k => parse_deep.l0 k x1 x5 l n i) (fun k => (parse_deep.mono_l k).2.2 _ _ _ _ _) h
theorem shape_on {a0 : Int} {a1 : ByteArray} {l : List S50} {k : Nat} {r : Int} (h : parse_shape.f k a0 a1 l = some r) : ∀ m, k ≤ m → parse_shape.f m a0 a1 l = some r := some_on (f := fun k => parse_shape.f k a0 a1 l) (fun k => (parse_shape.mono_l k).1 _ _ _) h
theorem Shape_on {a0 : Int} {a1 : ByteArray} {l : List S50} {k : Nat} {r : Int} (h : parse_Shape.f k a0 a1 l = some r) : ∀ m, k ≤ m → parse_Shape.f m a0 a1 l = some r := some_on (f := fun k => parse_Shape.f k a0 a1 l) (fun k => parse_Shape.mono _ _ _ k) h
theorem some_eq {α : Type} {f : Nat → Option α} (hm : ∀ k, LeO (f k) (f (k + 1))) {k m : Nat} {r s : α} (h : f k = some r) (g : f m = some s) : r = s := by
  have a := some_on hm h (max k m) (Nat.le_max_left _ _)
  have b := some_on hm g (max k m) (Nat.le_max_right _ _)
  rw [a] at b
  exact Option.some.inj b
theorem elem50 {w : World} {A : Option Addr} {n : Nat} {xs : List S50} (h : Kd.C k50 w A n xs) (i : Nat) (hi : i < n) : ∃ A2, Kd.C k50 w A2 (rd_T50 xs (i : Int)).f2.length (rd_T50 xs (i : Int)).f2 := by
  obtain ⟨ad, A2, c2, e, _, _, _, _, hC⟩ := at_T50 h (i : Int) (by omega) (by omega)
  exact ⟨A2, hC⟩
theorem deep_stop (K : Nat) (k left : Int) (a : ByteArray) (l : List S50) (h : ¬ left > 1 ∨ (k ≠ 6 ∧ k ≠ 7)) : parse_deep.f (K + 2) k a l left = some 1 := by
  rcases h with h | ⟨h6, h7⟩
  · rw [parse_deep.f, if_neg h, parse_deep.j0, if_neg (by decide), w01]
  · by_cases h : left > 1
    · rw [parse_deep.f, if_pos h, if_neg h6, beq_eq_false_iff_ne.mpr h7, parse_deep.j0, if_neg (by decide), w01]
    · rw [parse_deep.f, if_neg h, parse_deep.j0, if_neg (by decide), w01]
theorem deep_go (K : Nat) (k left : Int) (a : ByteArray) (l : List S50) (h : left > 1) (hk : k = 6 ∨ k = 7) : parse_deep.f (K + 2) k a l left = parse_deep.l0 K left 0 l (l.length : Int) 0 := by
  rcases hk with rfl | rfl
  · rw [parse_deep.f, if_pos h, if_pos rfl, parse_deep.j0, if_pos rfl]
  · rw [parse_deep.f, if_pos h, if_neg (by decide), show ((7 : Int) == 7) = true from rfl, parse_deep.j0, if_pos rfl]
theorem deep_tot (w : World) : ∀ (n : Nat) (left : Int), left ≤ n → left ≤ 100 → n ≤ 100 → ∀ (t : S50) (A : Option Addr), Kd.C k50 w A t.f2.length t.f2 → ∃ K r, parse_deep.f K t.f0 t.f1 t.f2 left = some r ∧ 1 ≤ r ∧ r ≤ n + 1
  | 0, left, h1, h2, hn, t, A, hC => ⟨2, 1, deep_stop 0 _ _ _ _ (.inl (by omega)), by omega, by omega⟩
  | n + 1, left, h1, h2, hn, t, A, hC => by
    by_cases hs : left > 1 ∧ (t.f0 = 6 ∨ t.f0 = 7)
    · obtain ⟨hl, hk⟩ := hs
      have hlen : t.f2.length ≤ 9223372036854775807 := hC.2.1
      have hw : wrap64 (left - 1) = left - 1 := by unfold wrap64; omega
      have hloop : ∀ (d i : Nat) (x5 : Int), i + d = t.f2.length → 0 ≤ x5 → x5 ≤ n + 1 → ∃ K r, parse_deep.l0 K left x5 t.f2 (t.f2.length : Int) (i : Int) = some r ∧ 1 ≤ r ∧ r ≤ n + 2 := by
        intro d
        induction d with
        | zero =>
          intro i x5 hi h0 h3
          refine ⟨1, x5 + 1, ?_, by omega, by omega⟩
          rw [parse_deep.l0, if_neg (by omega)]
          congr 1
          unfold wrap64; omega
        | succ d ih =>
          intro i x5 hi h0 h3
          obtain ⟨A2, hC2⟩ := elem50 hC i (by omega)
          obtain ⟨K1, r1, e1, e2, e3⟩ := deep_tot w n (left - 1) (by omega) (by omega) (by omega) (rd_T50 t.f2 (i : Int)) A2 hC2
          obtain ⟨K2, r2, f1, f2, f3⟩ := ih (i + 1) (mx x5 r1) (by omega) (by unfold mx; split <;> omega) (by unfold mx; split <;> omega)
          refine ⟨max K1 K2 + 1, r2, ?_, f2, f3⟩
          have hi1 : wrap64 ((i : Int) + 1) = ((i + 1 : Nat) : Int) := by unfold wrap64; omega
          rw [parse_deep.l0, if_pos (by omega), if_pos (by omega), if_pos (by omega), hw, deep_on e1 _ (Nat.le_max_left _ _), obind, hi1]
          exact deepL_on f1 _ (Nat.le_max_right _ _)
      obtain ⟨K, r, e1, e2, e3⟩ := hloop t.f2.length 0 0 (by omega) (by omega) (by omega)
      exact ⟨K + 2, r, by rw [deep_go K _ _ _ _ hl hk]; exact e1, e2, by omega⟩
    · refine ⟨2, 1, deep_stop 0 _ _ _ _ ?_, by omega, by omega⟩
      by_cases hl : left > 1
      · exact .inr ⟨fun h => hs ⟨hl, .inl h⟩, fun h => hs ⟨hl, .inr h⟩⟩
      · exact .inl hl
/-- A type of one part is one deeper than it. -/
theorem deep_one (w : World) {left k r : Int} {a : ByteArray} {x : S50} {A : Option Addr} {K : Nat} (hC : Kd.C k50 w A [x].length [x]) (hl : left > 1) (h100 : left ≤ 100) (hk : k = 6 ∨ k = 7) (h : parse_deep.f K k a [x] left = some r) : ∃ K1 r1, parse_deep.f K1 x.f0 x.f1 x.f2 (left - 1) = some r1 ∧ r = r1 + 1 ∧ 1 ≤ r1 := by
  obtain ⟨A2, hC2⟩ := elem50 hC 0 (by simp)
  obtain ⟨K1, r1, e1, e2, e3⟩ := deep_tot w 100 (left - 1) (by omega) (by omega) (by omega) _ A2 hC2
  refine ⟨K1, r1, e1, ?_, e2⟩
  have e1 : parse_deep.f K1 x.f0 x.f1 x.f2 (left - 1) = some r1 := e1
  have hw : wrap64 (left - 1) = left - 1 := by unfold wrap64; omega
  have hd : parse_deep.f (K1 + 2 + 2) k a [x] left = some (r1 + 1) := by
    rw [deep_go (K1 + 2) _ _ _ _ hl hk, parse_deep.l0, if_pos (by simp), if_pos (by decide), if_pos (by simp), rd_one, hw, deep_on e1 (K1 + 1) (by omega), obind, w01, parse_deep.l0, if_neg (by simp)]
    have : mx 0 r1 = r1 := by unfold mx; split <;> omega
    rw [this]
    congr 1
    unfold wrap64; omega
  exact some_eq (f := fun k' => parse_deep.f k' k a [x] left) (fun k' => (parse_deep.mono_l k').1 _ _ _ _) h hd
/-- What the shape looks at, in one step. -/
def shapeB (k : Int) (a : ByteArray) (l : List S50) : Bool := decide (k < 1) || decide (k > 8) || ((k == 6 || k == 7) != (((l.length : Nat) : Int) == 1)) || decide (((l.length : Nat) : Int) > 1) || ((k == 8) != nameB a) || (decide (k ≠ 8) && (a.toList != ([] : List UInt8)))
theorem shape_step (K : Nat) (k : Int) (a : ByteArray) (l : List S50) : parse_shape.f (K + 5) k a l = if shapeB k a l = true then some 41 else if k = 6 ∨ k = 7 then (parse_shape.f K (rd_T50 l 0).f0 (rd_T50 l 0).f1 (rd_T50 l 0).f2) else some 0 := by
  have hn : parse_Name.f a = some (nameB a) := rfl
  have hb : ∀ o : Option Int, (o.bind fun t => some t) = o := fun o => by cases o <;> rfl
  have e0 : parse_shape.f (K + 5) k a l = parse_shape.j0 (K + 4) (k == 6 || k == 7) k a l := by
    rw [parse_shape.f]
    by_cases h6 : k = 6
    · rw [if_pos h6, h6]; rfl
    · rw [if_neg h6, show (k == 6) = false from beq_eq_false_iff_ne.mpr h6, Bool.false_or]
  rw [e0]
  obtain ⟨x, hx⟩ : ∃ x, x = (k == 6 || k == 7) := ⟨_, rfl⟩
  have hx67 : (k = 6 ∨ k = 7) ↔ x = true := by rw [hx]; simp
  rw [← hx, parse_shape.j0]
  unfold shapeB
  rw [← hx]
  by_cases h1 : k < 1
  · rw [if_pos h1, parse_shape.j1, if_pos rfl, parse_shape.j3, if_pos rfl, decide_eq_true h1]; rfl
  · rw [if_neg h1, decide_eq_false h1, Bool.false_or]
    by_cases h8 : k > 8
    · rw [decide_eq_true h8, parse_shape.j1, if_pos rfl, parse_shape.j3, if_pos rfl]; rfl
    · rw [decide_eq_false h8, Bool.false_or, parse_shape.j1, if_neg (by decide)]
      by_cases h2 : (x != (((l.length : Nat) : Int) == 1)) = true
      · rw [if_pos h2, parse_shape.j2, if_pos rfl, parse_shape.j3, if_pos rfl, h2]; rfl
      · rw [if_neg h2]
        have h2' : (x != (((l.length : Nat) : Int) == 1)) = false := by simpa using h2
        rw [h2', Bool.false_or]
        by_cases h3 : ((l.length : Nat) : Int) > 1
        · rw [decide_eq_true h3, parse_shape.j2, if_pos rfl, parse_shape.j3, if_pos rfl]; rfl
        · rw [decide_eq_false h3, Bool.false_or, parse_shape.j2, if_neg (by decide), hn, obind]
          by_cases h4 : ((k == 8) != nameB a) = true
          · rw [if_pos h4, h4, parse_shape.j3, if_pos rfl]; rfl
          · have h4' : ((k == 8) != nameB a) = false := by simpa using h4
            rw [if_neg h4, h4', Bool.false_or]
            have hlen : x = true → 0 < ((l.length : Nat) : Int) := fun hxt => by
              rw [hxt] at h2'
              simp only [bne_eq_false_iff_eq] at h2'
              have := h2'.symm
              rw [beq_iff_eq] at this
              omega
            by_cases h5 : k = 8
            · rw [if_pos h5, parse_shape.j3, if_neg (show ¬ (false = true) by decide)]
              have hxf : x = false := by rw [hx, h5]; rfl
              rw [hxf, if_neg (show ¬ (false = true) by decide), if_neg (by simp [h5]), if_neg (by omega)]
            · rw [if_neg h5, parse_shape.j3]
              by_cases h6 : (a.toList != ([] : List UInt8)) = true
              · rw [if_pos h6, h6, if_pos (by simp [h5])]
              · have h6' : (a.toList != ([] : List UInt8)) = false := by simpa using h6
                rw [if_neg h6, h6', Bool.and_false, if_neg (show ¬ (false = true) by decide)]
                by_cases hxt : x = true
                · rw [if_pos hxt, if_pos (hlen hxt), if_pos (hx67.2 hxt), hb]
                · rw [if_neg hxt, if_neg (fun h => hxt (hx67.1 h))]
theorem shapeB_false {k : Int} {a : ByteArray} {l : List S50} (h : shapeB k a l = false) : (1 ≤ k ∧ k ≤ 8) ∧ ((k = 6 ∨ k = 7) ↔ l.length = 1) ∧ l.length ≤ 1 ∧ (k = 8 ↔ nameB a = true) ∧ (k ≠ 8 → a = ⟨#[]⟩) := by
  unfold shapeB at h
  simp only [Bool.or_eq_false_iff, decide_eq_false_iff_not, Bool.and_eq_false_iff] at h
  obtain ⟨⟨⟨⟨⟨h1, h2⟩, h3⟩, h4⟩, h5⟩, h6⟩ := h
  refine ⟨⟨by omega, by omega⟩, ?_, by omega, ?_, fun h8 => ?_⟩
  · simp only [bne_eq_false_iff_eq] at h3
    constructor
    · intro hk
      have : (k == 6 || k == 7) = true := by simpa using hk
      rw [this] at h3
      have := h3.symm
      rw [beq_iff_eq] at this
      omega
    · intro hl
      have : (((l.length : Nat) : Int) == 1) = true := by rw [hl]; rfl
      rw [this] at h3
      simpa using h3
  · simp only [bne_eq_false_iff_eq] at h5
    rw [← h5]; simp
  · rcases h6 with h6 | h6
    · exact absurd h8 h6
    · simp only [bne_eq_false_iff_eq] at h6
      exact eqS_eq (by unfold eqS; rw [h6]; decide +kernel)
theorem shape_tot (w : World) : ∀ (d : Nat) (left : Int), (d : Int) < left → left ≤ 100 → ∀ (t : S50) (A : Option Addr), Kd.C k50 w A t.f2.length t.f2 → ∀ K r, parse_deep.f K t.f0 t.f1 t.f2 left = some r → 1 ≤ r → r ≤ d → ∃ K' k, parse_shape.f K' t.f0 t.f1 t.f2 = some k ∧ (k = 0 → ∃ u ts, TyR d t u ts)
  | 0, left, h1, h2, t, A, hC, K, r, hd, hr, hrd => by omega
  | d + 1, left, h1, h2, t, A, hC, K, r, hd, hr, hrd => by
    cases hb : shapeB t.f0 t.f1 t.f2 with
    | true => exact ⟨5, 41, by rw [shape_step, if_pos hb], fun h => by omega⟩
    | false =>
      obtain ⟨⟨b1, b2⟩, b3, b4, b5, b6⟩ := shapeB_false hb
      obtain ⟨f0, f1, f2⟩ := t
      by_cases h67 : f0 = 6 ∨ f0 = 7
      · have hl := b3.1 h67
        obtain ⟨x, hx⟩ : ∃ x, f2 = [x] := by
          match f2, hl with
          | [x], _ => exact ⟨x, rfl⟩
        have hx : f2 = [x] := hx
        subst hx
        obtain ⟨K1, r1, e1, e2, e3⟩ := deep_one w hC (by omega) h2 h67 hd
        obtain ⟨A2, hC2⟩ := elem50 hC 0 (by simp)
        obtain ⟨K', k, g1, g2⟩ := shape_tot w d (left - 1) (by omega) (by omega) x A2 hC2 K1 r1 e1 e3 (by omega)
        refine ⟨K' + 5, k, by rw [shape_step, if_neg (by rw [hb]; decide), if_pos h67]; exact g1, fun hk => ?_⟩
        obtain ⟨u, ts, ht⟩ := g2 hk
        have ha : f1 = ⟨#[]⟩ := b6 (by show f0 ≠ 8; omega)
        subst ha
        rcases h67 with h | h
        · subst h; exact ⟨_, _, TyR.list d x u ts ht⟩
        · subst h; exact ⟨_, _, TyR.opt d x u ts ht⟩
      · refine ⟨5, 0, by rw [shape_step, if_neg (by rw [hb]; decide), if_neg h67], fun _ => ?_⟩
        have hl : f2 = [] := by
          have : ¬ f2.length = 1 := fun h => h67 (b3.2 h)
          have b4 : f2.length ≤ 1 := b4
          exact List.eq_nil_of_length_eq_zero (by omega)
        subst hl
        by_cases h8 : f0 = 8
        · subst h8
          exact ⟨_, _, TyR.name d f1 (b5.1 rfl)⟩
        · have ha : f1 = ⟨#[]⟩ := b6 h8
          subst ha
          have h67' : f0 ≠ 6 ∧ f0 ≠ 7 := ⟨fun h => h67 (.inl h), fun h => h67 (.inr h)⟩
          have b1 : 1 ≤ f0 := b1
          have b2 : f0 ≤ 8 := b2
          exact ⟨_, _, TyR.plain d f0 _ ⟨b1, by omega⟩ rfl⟩
theorem ty_tot (w : World) (t : S50) (A : Option Addr) (hC : Kd.C k50 w A t.f2.length t.f2) : ∃ K, ∀ m, K ≤ m → ∃ k, parse_Shape.f m t.f0 t.f1 t.f2 = some k ∧ (k = 0 → TyG t) := by
  obtain ⟨K, r, e1, e2, e3⟩ := deep_tot w 100 100 (by omega) (by omega) (by omega) t A hC
  by_cases h8 : r > 8
  · refine ⟨K, fun m hm => ⟨42, ?_, fun h => by omega⟩⟩
    unfold parse_Shape.f parse_Deep.f
    rw [deep_on e1 m hm, obind, obind, if_pos h8]
  · obtain ⟨K', k, f1, f2⟩ := shape_tot w 8 100 (by omega) (by omega) t A hC K r e1 e2 (by omega)
    refine ⟨max K K', fun m hm => ⟨k, ?_, f2⟩⟩
    unfold parse_Shape.f parse_Deep.f
    rw [deep_on e1 m (Nat.le_trans (Nat.le_max_left _ _) hm), obind, obind, if_neg h8, shape_on f1 m (Nat.le_trans (Nat.le_max_right _ _) hm)]
    rfl
end Go.Proofs.Ytoloneoeojoiaaa.EParseBack

