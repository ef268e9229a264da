/- The printer's types, methods, declarations. -/
import Derived.Test.YtoloneoeojoiaaaMayA
import Derived.Test.YtoloneoeojoiaaaEParseBackx7
namespace Go.Proofs.Ytoloneoeojoiaaa.EParseBack
open Go.RowKit Go.Shelf Go.Proofs.YtoloneoeojoiaaaW.PrintWords Go.Proofs.YtoloneoeojoiaaaW.PrintLast Go.Proofs.YtoloneoeojoiaaaW.PrintMore
set_option linter.unusedVariables false
set_option linter.unusedSimpArgs false
theorem pheapB {w w1 : World} {g : Nat} {o : Obj} (h : w.heap[g]? = some o) (hb : Below w.heap.size w w1) : w1.heap[g]? = some o := (Ch.of_below hb (fun _ => False)).heap h (fun h => h)
theorem F_here {α : Type} {d : Kd α} {w : World} {ok : Nat → Prop} {A : Option Addr} {n : Nat} {xs : List α} (h : Kd.F d w ok A n xs) : d.C w A n xs := h w (fun _ _ _ => rfl)
theorem F_on {α : Type} {d : Kd α} {w w1 : World} {base : Nat} {A : Option Addr} {n : Nat} {xs : List α} (h : Kd.F d w (fun k => k < base) A n xs) (hb : Below base w w1) : Kd.F d w1 (fun k => k < base) A n xs :=
  fun W' hW => h W' (fun k hk hlt => (hW k hk (Nat.lt_of_lt_of_le hlt hb.size)).trans (hb.block k hk))
set_option maxHeartbeats 2000000 in
set_option maxRecDepth 100000 in
theorem ptyped.calls (K base b : Nat) (l : List UInt8) (t : S50) (s : ByteArray) (A : Option Addr) (c : Nat) (w : World) (h : Bld 108 base b l [] w) (hbb : base ≤ b) (hF : Kd.F k50 w (fun k => k < base) A t.f2.length t.f2) (hc : t.f2.length ≤ c) (hS : parse_Shape.f K t.f0 t.f1 t.f2 = some 0) (hW : parse_word.f K t.f0 t.f1 t.f2 = some s) (hlen : l.length + s.size + 60 ≤ 100000000) :
    Calls Try.prog 71 #[.pointer (some ⟨b, 0, none⟩), .agg #[.int .i64 t.f0, .string t.f1, .slice A t.f2.length c]] w (Wrote base b w (l ++ s.data.toList)) := by
  have HB := Aside0.mk h
  have HL := Aside0.mk hlen
  have HBB := Aside0.mk hbb
  have HSH := Aside0.mk (fun (W : World) (hB : Below base w W) => parse_Shape.calls K t.f0 t.f1 A c t.f2 0 W (F_here (F_on hF hB)) hc hS)
  have HWD := Aside0.mk (fun (W : World) (hB : Below base w W) => parse_word.calls K t.f0 t.f1 A c t.f2 s W (F_here (F_on hF hB)) hc hW)
  clear h hF hc hS hW hlen hbb
  obtain ⟨n, hn⟩ : ∃ n, n = t.f2.length := ⟨_, rfl⟩
  rw [← hn]
  rw [← hn] at HSH HWD
  clear hn
  unfold Wrote
  go_enter Try.func71, Try.ntmps71
  go_wp2_with (first | ((with_reducible refine gate_dst (N := 3) rfl ?_); refine box_event ?hg (N := 3) ?hd (cs := #[.int .i64 t.f0, .string t.f1, .slice A n c]) (t := 50) ?hr ?_; (case hd => rfl); (case hg => rfl); (case hr => first | (go_simp; done) | (go_simp; rfl)); intro g2 hg1 w1 hbox hb; have K1 := Aside0.mk hbox; have HW1 := Aside0.mk hb; have HG1 := Aside0.mk hg1; clear hg1 hbox hb; have z1 := zcell K1.out 0 _ rfl; have z2 := zcell K1.out 1 _ rfl; have z3 := zcell K1.out 2 _ rfl))
  have hbw : base ≤ w.heap.size := Nat.le_trans HBB.out (Nat.le_of_lt HB.out.lt)
  have HW1b := Aside0.mk (HW1.out.mono hbw)
  go_at_call 95
  refine (HSH.out w1 HW1b.out).mono ?_
  rintro e w2 ⟨rfl, hb⟩
  have HW2 := Aside0.mk (below_b HW1.out hb HW1.out.size)
  have z1 := zcell (pheapB K1.out hb) 0 _ rfl
  have z2 := zcell (pheapB K1.out hb) 1 _ rfl
  have z3 := zcell (pheapB K1.out hb) 2 _ rfl
  clear hb K1 HW1b
  go_wp2_with fail
  go_at_call 54
  refine (need_yes.calls 0 _).mono ?_
  rintro e w3 ⟨rfl, rfl⟩
  go_wp2_with fail
  go_at_call 96
  refine (HWD.out w2 (HW2.out.mono hbw)).mono ?_
  rintro e w3 ⟨rfl, hb⟩
  have HW3 := Aside0.mk (below_b HW2.out hb HW2.out.size)
  clear hb z1 z2 z3 HW1 HW2
  have HB3 := Aside0.mk (HB.out.below HW3.out)
  go_wp2_with fail
  go_at_call 70
  have HT := Aside0.mk (lits_new base b w3.heap.size l [s] w3 HB3.out HBB.out rfl (show 1 ≤ 9 by decide) (by rw [catL_one]; have := HL.out; omega))
  refine (show Calls Try.prog 70 #[.pointer (some ⟨b, 0, none⟩), .slice (some ⟨w3.heap.size, 0, none⟩) 1 1] _ _ from HT.out).mono ?_
  rintro e w4 h4
  have h5 := Wrote.then (KpB.of_below HW3.out) (HW3.out.mono hbw) h4
  clear h4 HT
  obtain ⟨rfl, hb4, hk4, hw4⟩ := h5
  have HB4 := Aside0.mk hb4
  clear hb4
  go_wp2_with fail
  go_end0
  refine ⟨rfl, ?_, hk4, hw4⟩
  have := HB4.out
  rw [catL_cons, catL_nil, List.append_nil] at this
  exact this
def methL (once : Bool) (nm s1 s2 : ByteArray) : List UInt8 := (if once = true then [9, 111, 110, 99, 101, 32] else [9, 114, 101, 97, 100, 32]) ++ nm.data.toList ++ [40] ++ s1.data.toList ++ [41, 32] ++ s2.data.toList ++ [59, 10]
set_option maxHeartbeats 4000000 in
set_option maxRecDepth 100000 in
theorem pmethod1.calls (K base b : Nat) (l : List UInt8) (nm : ByteArray) (t u : S50) (s1 s2 : ByteArray) (A : Option Addr) (c : Nat) (B : Option Addr) (d : Nat) (w : World) (h : Bld 108 base b l [] w) (hbb : base ≤ b) (hs : nameB nm = true)
    (hF : Kd.F k50 w (fun k => k < base) A t.f2.length t.f2) (hc : t.f2.length ≤ c) (hS : parse_Shape.f K t.f0 t.f1 t.f2 = some 0) (hW : parse_word.f K t.f0 t.f1 t.f2 = some s1)
    (hF2 : Kd.F k50 w (fun k => k < base) B u.f2.length u.f2) (hc2 : u.f2.length ≤ d) (hS2 : parse_Shape.f K u.f0 u.f1 u.f2 = some 0) (hW2 : parse_word.f K u.f0 u.f1 u.f2 = some s2) (hlen : l.length + nm.size + s1.size + s2.size + 100 ≤ 100000000) :
    Calls Try.prog 72 #[.pointer (some ⟨b, 0, none⟩), .agg #[.string nm, .bool true, .int .i64 t.f0, .string t.f1, .slice A t.f2.length c, .int .i64 u.f0, .string u.f1, .slice B u.f2.length d]] w (Wrote base b w (l ++ methL true nm s1 s2)) := by
  have HB := Aside0.mk h
  have HS := Aside0.mk hs
  have HL := Aside0.mk hlen
  have HBB := Aside0.mk hbb
  have HTY := Aside0.mk (fun (l' : List UInt8) (W : World) (hB : Bld 108 base b l' [] W) (hw : Below base w W) (hl : l'.length + s1.size + 60 ≤ 100000000) => ptyped.calls K base b l' t s1 A c W hB hbb (F_on hF hw) hc hS hW hl)
  have HTU := Aside0.mk (fun (l' : List UInt8) (W : World) (hB : Bld 108 base b l' [] W) (hw : Below base w W) (hl : l'.length + s2.size + 60 ≤ 100000000) => ptyped.calls K base b l' u s2 B d W hB hbb (F_on hF2 hw) hc2 hS2 hW2 hl)
  clear h hs hlen hbb hF hc hS hW hF2 hc2 hS2 hW2
  obtain ⟨n, hn⟩ : ∃ n, n = t.f2.length := ⟨_, rfl⟩
  obtain ⟨m, hm⟩ : ∃ m, m = u.f2.length := ⟨_, rfl⟩
  rw [← hn, ← hm]
  rw [← hn] at HTY
  rw [← hm] at HTU
  clear hn hm
  unfold Wrote
  go_enter Try.func72, Try.ntmps72
  go_wp2_with (first | ((with_reducible refine gate_dst (N := 3) rfl ?_); refine box_event ?hg (N := 3) ?hd (cs := #[.string nm, .bool true, .int .i64 t.f0, .string t.f1, .slice A n c, .int .i64 u.f0, .string u.f1, .slice B m d]) (t := 94) ?hr ?_; (case hd => rfl); (case hg => rfl); (case hr => first | (go_simp; done) | (go_simp; rfl)); intro g2 hg1 w0 hbox hb; have K0 := Aside0.mk hbox; have HW0 := Aside0.mk hb; have HG := Aside0.mk hg1; clear hg1 hbox hb; have z1 := zcell K0.out 1 _ rfl))
  clear z1
  have hgb : g2 ≠ b := by have := HG.out; have := HB.out.lt; omega
  have HB0 := Aside0.mk (HB.out.below HW0.out)
  have HK0 := Aside0.mk (KpB.of_below (b := b) HW0.out)
  have HWB := Aside0.mk (HW0.out.mono (Nat.le_trans HBB.out (Nat.le_of_lt HB.out.lt)))
  clear HW0
  go_at_call 70
  have HT := Aside0.mk (lits_new base b w0.heap.size l [⟨#[9, 111, 110, 99, 101, 32]⟩] w0 HB0.out HBB.out rfl (show 1 ≤ 9 by decide) (by
    have := HL.out; 
    have e : (catL [⟨#[9, 111, 110, 99, 101, 32]⟩]).length = 6 := rfl
    rw [e]; omega))
  refine (show Calls Try.prog 70 #[.pointer (some ⟨b, 0, none⟩), .slice (some ⟨w0.heap.size, 0, none⟩) 1 1] _ _ from HT.out).mono ?_
  rintro e w1 h4
  have hk9 := h4.2.2.1
  have h5 := Wrote.then (HK0.out) (HWB.out) h4
  clear h4
  obtain ⟨rfl, hb_, hk_, hw_⟩ := h5
  clear HT
  have HB1 := Aside0.mk hb_
  have HK1 := Aside0.mk hk_
  have HW1 := Aside0.mk hw_
  clear hb_ hk_ hw_
  have HL1 := Aside0.mk (show (l ++ catL [⟨#[9, 111, 110, 99, 101, 32]⟩]).length = l.length + 6 by rw [List.length_append]; rfl)
  obtain ⟨l1, hl⟩ : ∃ l_, l_ = l ++ catL [⟨#[9, 111, 110, 99, 101, 32]⟩] := ⟨_, rfl⟩
  rw [← hl] at HB1 HL1
  have HE1 := Aside0.mk hl
  clear hl
  have K1 := Aside0.mk (hk9.keep _ _ _ _ K0.out hgb (by decide))
  clear hk9 K0
  have z0 := zcell (K1.out) 0 _ rfl
  go_wp2_with fail
  clear z0
  go_at_call 93
  refine (pname.calls base b l1 nm w1 HB1.out HBB.out HS.out (by have := HL.out; have := HL1.out; omega)).mono ?_
  rintro e w2 h4
  have hk9 := h4.2.2.1
  have h5 := Wrote.then (HK1.out) (HW1.out) h4
  clear h4
  obtain ⟨rfl, hb_, hk_, hw_⟩ := h5
  have HB2 := Aside0.mk hb_
  have HK2 := Aside0.mk hk_
  have HW2 := Aside0.mk hw_
  clear hb_ hk_ hw_ HK1 HW1
  have HL2 := Aside0.mk (show (l1 ++ nm.data.toList).length = l1.length + nm.size by rw [List.length_append]; rw [sz_list])
  obtain ⟨l2, hl⟩ : ∃ l_, l_ = l1 ++ nm.data.toList := ⟨_, rfl⟩
  rw [← hl] at HB2 HL2
  have HE2 := Aside0.mk hl
  clear hl
  have K2 := Aside0.mk (hk9.keep _ _ _ _ K1.out hgb (by decide))
  clear hk9 K1
  go_wp2_with fail
  go_at_call 70
  have HT := Aside0.mk (lits_new base b w2.heap.size l2 [⟨#[40]⟩] w2 HB2.out HBB.out rfl (show 1 ≤ 9 by decide) (by
    have := HL.out; have := HL1.out; have := HL2.out; 
    have e : (catL [⟨#[40]⟩]).length = 1 := rfl
    rw [e]; omega))
  refine (show Calls Try.prog 70 #[.pointer (some ⟨b, 0, none⟩), .slice (some ⟨w2.heap.size, 0, none⟩) 1 1] _ _ from HT.out).mono ?_
  rintro e w3 h4
  have hk9 := h4.2.2.1
  have h5 := Wrote.then (HK2.out) (HW2.out) h4
  clear h4
  obtain ⟨rfl, hb_, hk_, hw_⟩ := h5
  clear HT
  have HB3 := Aside0.mk hb_
  have HK3 := Aside0.mk hk_
  have HW3 := Aside0.mk hw_
  clear hb_ hk_ hw_ HK2 HW2
  have HL3 := Aside0.mk (show (l2 ++ catL [⟨#[40]⟩]).length = l2.length + 1 by rw [List.length_append]; rfl)
  obtain ⟨l3, hl⟩ : ∃ l_, l_ = l2 ++ catL [⟨#[40]⟩] := ⟨_, rfl⟩
  rw [← hl] at HB3 HL3
  have HE3 := Aside0.mk hl
  clear hl
  have K3 := Aside0.mk (hk9.keep _ _ _ _ K2.out hgb (by decide))
  clear hk9 K2
  have z0 := zcell (K3.out) 2 _ rfl
  have z1 := zcell (K3.out) 3 _ rfl
  have z2 := zcell (K3.out) 4 _ rfl
  go_wp2_with fail
  clear z0 z1 z2
  go_at_call 71
  refine (HTY.out l3 w3 HB3.out (HW3.out) (by have := HL.out; have := HL1.out; have := HL2.out; have := HL3.out; omega)).mono ?_
  rintro e w4 h4
  have hk9 := h4.2.2.1
  have h5 := Wrote.then (HK3.out) (HW3.out) h4
  clear h4
  obtain ⟨rfl, hb_, hk_, hw_⟩ := h5
  have HB4 := Aside0.mk hb_
  have HK4 := Aside0.mk hk_
  have HW4 := Aside0.mk hw_
  clear hb_ hk_ hw_ HK3 HW3
  have HL4 := Aside0.mk (show (l3 ++ s1.data.toList).length = l3.length + s1.size by rw [List.length_append]; rw [sz_list])
  obtain ⟨l4, hl⟩ : ∃ l_, l_ = l3 ++ s1.data.toList := ⟨_, rfl⟩
  rw [← hl] at HB4 HL4
  have HE4 := Aside0.mk hl
  clear hl
  have K4 := Aside0.mk (hk9.keep _ _ _ _ K3.out hgb (by decide))
  clear hk9 K3
  go_wp2_with fail
  go_at_call 70
  have HT := Aside0.mk (lits_new base b w4.heap.size l4 [⟨#[41, 32]⟩] w4 HB4.out HBB.out rfl (show 1 ≤ 9 by decide) (by
    have := HL.out; have := HL1.out; have := HL2.out; have := HL3.out; have := HL4.out; 
    have e : (catL [⟨#[41, 32]⟩]).length = 2 := rfl
    rw [e]; omega))
  refine (show Calls Try.prog 70 #[.pointer (some ⟨b, 0, none⟩), .slice (some ⟨w4.heap.size, 0, none⟩) 1 1] _ _ from HT.out).mono ?_
  rintro e w5 h4
  have hk9 := h4.2.2.1
  have h5 := Wrote.then (HK4.out) (HW4.out) h4
  clear h4
  obtain ⟨rfl, hb_, hk_, hw_⟩ := h5
  clear HT
  have HB5 := Aside0.mk hb_
  have HK5 := Aside0.mk hk_
  have HW5 := Aside0.mk hw_
  clear hb_ hk_ hw_ HK4 HW4
  have HL5 := Aside0.mk (show (l4 ++ catL [⟨#[41, 32]⟩]).length = l4.length + 2 by rw [List.length_append]; rfl)
  obtain ⟨l5, hl⟩ : ∃ l_, l_ = l4 ++ catL [⟨#[41, 32]⟩] := ⟨_, rfl⟩
  rw [← hl] at HB5 HL5
  have HE5 := Aside0.mk hl
  clear hl
  have K5 := Aside0.mk (hk9.keep _ _ _ _ K4.out hgb (by decide))
  clear hk9 K4
  have z0 := zcell (K5.out) 5 _ rfl
  have z1 := zcell (K5.out) 6 _ rfl
  have z2 := zcell (K5.out) 7 _ rfl
  go_wp2_with fail
  clear z0 z1 z2
  go_at_call 71
  refine (HTU.out l5 w5 HB5.out (HW5.out) (by have := HL.out; have := HL1.out; have := HL2.out; have := HL3.out; have := HL4.out; have := HL5.out; omega)).mono ?_
  rintro e w6 h4
  have hk9 := h4.2.2.1
  have h5 := Wrote.then (HK5.out) (HW5.out) h4
  clear h4
  obtain ⟨rfl, hb_, hk_, hw_⟩ := h5
  have HB6 := Aside0.mk hb_
  have HK6 := Aside0.mk hk_
  have HW6 := Aside0.mk hw_
  clear hb_ hk_ hw_ HK5 HW5
  have HL6 := Aside0.mk (show (l5 ++ s2.data.toList).length = l5.length + s2.size by rw [List.length_append]; rw [sz_list])
  obtain ⟨l6, hl⟩ : ∃ l_, l_ = l5 ++ s2.data.toList := ⟨_, rfl⟩
  rw [← hl] at HB6 HL6
  have HE6 := Aside0.mk hl
  clear hl
  have K6 := Aside0.mk (hk9.keep _ _ _ _ K5.out hgb (by decide))
  clear hk9 K5
  go_wp2_with fail
  go_at_call 70
  have HT := Aside0.mk (lits_new base b w6.heap.size l6 [⟨#[59, 10]⟩] w6 HB6.out HBB.out rfl (show 1 ≤ 9 by decide) (by
    have := HL.out; have := HL1.out; have := HL2.out; have := HL3.out; have := HL4.out; have := HL5.out; have := HL6.out; 
    have e : (catL [⟨#[59, 10]⟩]).length = 2 := rfl
    rw [e]; omega))
  refine (show Calls Try.prog 70 #[.pointer (some ⟨b, 0, none⟩), .slice (some ⟨w6.heap.size, 0, none⟩) 1 1] _ _ from HT.out).mono ?_
  rintro e w7 h4
  have hk9 := h4.2.2.1
  have h5 := Wrote.then (HK6.out) (HW6.out) h4
  clear h4
  obtain ⟨rfl, hb_, hk_, hw_⟩ := h5
  clear HT
  have HB7 := Aside0.mk hb_
  have HK7 := Aside0.mk hk_
  have HW7 := Aside0.mk hw_
  clear hb_ hk_ hw_ HK6 HW6
  have HL7 := Aside0.mk (show (l6 ++ catL [⟨#[59, 10]⟩]).length = l6.length + 2 by rw [List.length_append]; rfl)
  obtain ⟨l7, hl⟩ : ∃ l_, l_ = l6 ++ catL [⟨#[59, 10]⟩] := ⟨_, rfl⟩
  rw [← hl] at HB7 HL7
  have HE7 := Aside0.mk hl
  clear hl
  have K7 := Aside0.mk (hk9.keep _ _ _ _ K6.out hgb (by decide))
  clear hk9 K6
  go_wp2_with fail
  go_end0
  refine ⟨rfl, ?_, HK7.out, HW7.out⟩
  have := HB7.out
  rw [HE7.out, HE6.out, HE5.out, HE4.out, HE3.out, HE2.out, HE1.out] at this
  have E : l ++ methL true nm s1 s2 = _ := (by simp only [methL, catL_cons, catL_nil, List.append_assoc, List.append_nil]; rfl : l ++ methL true nm s1 s2 = l ++ catL [⟨#[9, 111, 110, 99, 101, 32]⟩] ++ nm.data.toList ++ catL [⟨#[40]⟩] ++ s1.data.toList ++ catL [⟨#[41, 32]⟩] ++ s2.data.toList ++ catL [⟨#[59, 10]⟩])
  rw [E]; exact this
set_option maxHeartbeats 4000000 in
set_option maxRecDepth 100000 in
theorem pmethod0.calls (K base b : Nat) (l : List UInt8) (nm : ByteArray) (t u : S50) (s1 s2 : ByteArray) (A : Option Addr) (c : Nat) (B : Option Addr) (d : Nat) (w : World) (h : Bld 108 base b l [] w) (hbb : base ≤ b) (hs : nameB nm = true)
    (hF : Kd.F k50 w (fun k => k < base) A t.f2.length t.f2) (hc : t.f2.length ≤ c) (hS : parse_Shape.f K t.f0 t.f1 t.f2 = some 0) (hW : parse_word.f K t.f0 t.f1 t.f2 = some s1)
    (hF2 : Kd.F k50 w (fun k => k < base) B u.f2.length u.f2) (hc2 : u.f2.length ≤ d) (hS2 : parse_Shape.f K u.f0 u.f1 u.f2 = some 0) (hW2 : parse_word.f K u.f0 u.f1 u.f2 = some s2) (hlen : l.length + nm.size + s1.size + s2.size + 100 ≤ 100000000) :
    Calls Try.prog 72 #[.pointer (some ⟨b, 0, none⟩), .agg #[.string nm, .bool false, .int .i64 t.f0, .string t.f1, .slice A t.f2.length c, .int .i64 u.f0, .string u.f1, .slice B u.f2.length d]] w (Wrote base b w (l ++ methL false nm s1 s2)) := by
  have HB := Aside0.mk h
  have HS := Aside0.mk hs
  have HL := Aside0.mk hlen
  have HBB := Aside0.mk hbb
  have HTY := Aside0.mk (fun (l' : List UInt8) (W : World) (hB : Bld 108 base b l' [] W) (hw : Below base w W) (hl : l'.length + s1.size + 60 ≤ 100000000) => ptyped.calls K base b l' t s1 A c W hB hbb (F_on hF hw) hc hS hW hl)
  have HTU := Aside0.mk (fun (l' : List UInt8) (W : World) (hB : Bld 108 base b l' [] W) (hw : Below base w W) (hl : l'.length + s2.size + 60 ≤ 100000000) => ptyped.calls K base b l' u s2 B d W hB hbb (F_on hF2 hw) hc2 hS2 hW2 hl)
  clear h hs hlen hbb hF hc hS hW hF2 hc2 hS2 hW2
  obtain ⟨n, hn⟩ : ∃ n, n = t.f2.length := ⟨_, rfl⟩
  obtain ⟨m, hm⟩ : ∃ m, m = u.f2.length := ⟨_, rfl⟩
  rw [← hn, ← hm]
  rw [← hn] at HTY
  rw [← hm] at HTU
  clear hn hm
  unfold Wrote
  go_enter Try.func72, Try.ntmps72
  go_wp2_with (first | ((with_reducible refine gate_dst (N := 3) rfl ?_); refine box_event ?hg (N := 3) ?hd (cs := #[.string nm, .bool false, .int .i64 t.f0, .string t.f1, .slice A n c, .int .i64 u.f0, .string u.f1, .slice B m d]) (t := 94) ?hr ?_; (case hd => rfl); (case hg => rfl); (case hr => first | (go_simp; done) | (go_simp; rfl)); intro g2 hg1 w0 hbox hb; have K0 := Aside0.mk hbox; have HW0 := Aside0.mk hb; have HG := Aside0.mk hg1; clear hg1 hbox hb; have z1 := zcell K0.out 1 _ rfl))
  clear z1
  have hgb : g2 ≠ b := by have := HG.out; have := HB.out.lt; omega
  have HB0 := Aside0.mk (HB.out.below HW0.out)
  have HK0 := Aside0.mk (KpB.of_below (b := b) HW0.out)
  have HWB := Aside0.mk (HW0.out.mono (Nat.le_trans HBB.out (Nat.le_of_lt HB.out.lt)))
  clear HW0
  go_at_call 70
  have HT := Aside0.mk (lits_new base b w0.heap.size l [⟨#[9, 114, 101, 97, 100, 32]⟩] w0 HB0.out HBB.out rfl (show 1 ≤ 9 by decide) (by
    have := HL.out; 
    have e : (catL [⟨#[9, 114, 101, 97, 100, 32]⟩]).length = 6 := rfl
    rw [e]; omega))
  refine (show Calls Try.prog 70 #[.pointer (some ⟨b, 0, none⟩), .slice (some ⟨w0.heap.size, 0, none⟩) 1 1] _ _ from HT.out).mono ?_
  rintro e w1 h4
  have hk9 := h4.2.2.1
  have h5 := Wrote.then (HK0.out) (HWB.out) h4
  clear h4
  obtain ⟨rfl, hb_, hk_, hw_⟩ := h5
  clear HT
  have HB1 := Aside0.mk hb_
  have HK1 := Aside0.mk hk_
  have HW1 := Aside0.mk hw_
  clear hb_ hk_ hw_
  have HL1 := Aside0.mk (show (l ++ catL [⟨#[9, 114, 101, 97, 100, 32]⟩]).length = l.length + 6 by rw [List.length_append]; rfl)
  obtain ⟨l1, hl⟩ : ∃ l_, l_ = l ++ catL [⟨#[9, 114, 101, 97, 100, 32]⟩] := ⟨_, rfl⟩
  rw [← hl] at HB1 HL1
  have HE1 := Aside0.mk hl
  clear hl
  have K1 := Aside0.mk (hk9.keep _ _ _ _ K0.out hgb (by decide))
  clear hk9 K0
  have z0 := zcell (K1.out) 0 _ rfl
  go_wp2_with fail
  clear z0
  go_at_call 93
  refine (pname.calls base b l1 nm w1 HB1.out HBB.out HS.out (by have := HL.out; have := HL1.out; omega)).mono ?_
  rintro e w2 h4
  have hk9 := h4.2.2.1
  have h5 := Wrote.then (HK1.out) (HW1.out) h4
  clear h4
  obtain ⟨rfl, hb_, hk_, hw_⟩ := h5
  have HB2 := Aside0.mk hb_
  have HK2 := Aside0.mk hk_
  have HW2 := Aside0.mk hw_
  clear hb_ hk_ hw_ HK1 HW1
  have HL2 := Aside0.mk (show (l1 ++ nm.data.toList).length = l1.length + nm.size by rw [List.length_append]; rw [sz_list])
  obtain ⟨l2, hl⟩ : ∃ l_, l_ = l1 ++ nm.data.toList := ⟨_, rfl⟩
  rw [← hl] at HB2 HL2
  have HE2 := Aside0.mk hl
  clear hl
  have K2 := Aside0.mk (hk9.keep _ _ _ _ K1.out hgb (by decide))
  clear hk9 K1
  go_wp2_with fail
  go_at_call 70
  have HT := Aside0.mk (lits_new base b w2.heap.size l2 [⟨#[40]⟩] w2 HB2.out HBB.out rfl (show 1 ≤ 9 by decide) (by
    have := HL.out; have := HL1.out; have := HL2.out; 
    have e : (catL [⟨#[40]⟩]).length = 1 := rfl
    rw [e]; omega))
  refine (show Calls Try.prog 70 #[.pointer (some ⟨b, 0, none⟩), .slice (some ⟨w2.heap.size, 0, none⟩) 1 1] _ _ from HT.out).mono ?_
  rintro e w3 h4
  have hk9 := h4.2.2.1
  have h5 := Wrote.then (HK2.out) (HW2.out) h4
  clear h4
  obtain ⟨rfl, hb_, hk_, hw_⟩ := h5
  clear HT
  have HB3 := Aside0.mk hb_
  have HK3 := Aside0.mk hk_
  have HW3 := Aside0.mk hw_
  clear hb_ hk_ hw_ HK2 HW2
  have HL3 := Aside0.mk (show (l2 ++ catL [⟨#[40]⟩]).length = l2.length + 1 by rw [List.length_append]; rfl)
  obtain ⟨l3, hl⟩ : ∃ l_, l_ = l2 ++ catL [⟨#[40]⟩] := ⟨_, rfl⟩
  rw [← hl] at HB3 HL3
  have HE3 := Aside0.mk hl
  clear hl
  have K3 := Aside0.mk (hk9.keep _ _ _ _ K2.out hgb (by decide))
  clear hk9 K2
  have z0 := zcell (K3.out) 2 _ rfl
  have z1 := zcell (K3.out) 3 _ rfl
  have z2 := zcell (K3.out) 4 _ rfl
  go_wp2_with fail
  clear z0 z1 z2
  go_at_call 71
  refine (HTY.out l3 w3 HB3.out (HW3.out) (by have := HL.out; have := HL1.out; have := HL2.out; have := HL3.out; omega)).mono ?_
  rintro e w4 h4
  have hk9 := h4.2.2.1
  have h5 := Wrote.then (HK3.out) (HW3.out) h4
  clear h4
  obtain ⟨rfl, hb_, hk_, hw_⟩ := h5
  have HB4 := Aside0.mk hb_
  have HK4 := Aside0.mk hk_
  have HW4 := Aside0.mk hw_
  clear hb_ hk_ hw_ HK3 HW3
  have HL4 := Aside0.mk (show (l3 ++ s1.data.toList).length = l3.length + s1.size by rw [List.length_append]; rw [sz_list])
  obtain ⟨l4, hl⟩ : ∃ l_, l_ = l3 ++ s1.data.toList := ⟨_, rfl⟩
  rw [← hl] at HB4 HL4
  have HE4 := Aside0.mk hl
  clear hl
  have K4 := Aside0.mk (hk9.keep _ _ _ _ K3.out hgb (by decide))
  clear hk9 K3
  go_wp2_with fail
  go_at_call 70
  have HT := Aside0.mk (lits_new base b w4.heap.size l4 [⟨#[41, 32]⟩] w4 HB4.out HBB.out rfl (show 1 ≤ 9 by decide) (by
    have := HL.out; have := HL1.out; have := HL2.out; have := HL3.out; have := HL4.out; 
    have e : (catL [⟨#[41, 32]⟩]).length = 2 := rfl
    rw [e]; omega))
  refine (show Calls Try.prog 70 #[.pointer (some ⟨b, 0, none⟩), .slice (some ⟨w4.heap.size, 0, none⟩) 1 1] _ _ from HT.out).mono ?_
  rintro e w5 h4
  have hk9 := h4.2.2.1
  have h5 := Wrote.then (HK4.out) (HW4.out) h4
  clear h4
  obtain ⟨rfl, hb_, hk_, hw_⟩ := h5
  clear HT
  have HB5 := Aside0.mk hb_
  have HK5 := Aside0.mk hk_
  have HW5 := Aside0.mk hw_
  clear hb_ hk_ hw_ HK4 HW4
  have HL5 := Aside0.mk (show (l4 ++ catL [⟨#[41, 32]⟩]).length = l4.length + 2 by rw [List.length_append]; rfl)
  obtain ⟨l5, hl⟩ : ∃ l_, l_ = l4 ++ catL [⟨#[41, 32]⟩] := ⟨_, rfl⟩
  rw [← hl] at HB5 HL5
  have HE5 := Aside0.mk hl
  clear hl
  have K5 := Aside0.mk (hk9.keep _ _ _ _ K4.out hgb (by decide))
  clear hk9 K4
  have z0 := zcell (K5.out) 5 _ rfl
  have z1 := zcell (K5.out) 6 _ rfl
  have z2 := zcell (K5.out) 7 _ rfl
  go_wp2_with fail
  clear z0 z1 z2
  go_at_call 71
  refine (HTU.out l5 w5 HB5.out (HW5.out) (by have := HL.out; have := HL1.out; have := HL2.out; have := HL3.out; have := HL4.out; have := HL5.out; omega)).mono ?_
  rintro e w6 h4
  have hk9 := h4.2.2.1
  have h5 := Wrote.then (HK5.out) (HW5.out) h4
  clear h4
  obtain ⟨rfl, hb_, hk_, hw_⟩ := h5
  have HB6 := Aside0.mk hb_
  have HK6 := Aside0.mk hk_
  have HW6 := Aside0.mk hw_
  clear hb_ hk_ hw_ HK5 HW5
  have HL6 := Aside0.mk (show (l5 ++ s2.data.toList).length = l5.length + s2.size by rw [List.length_append]; rw [sz_list])
  obtain ⟨l6, hl⟩ : ∃ l_, l_ = l5 ++ s2.data.toList := ⟨_, rfl⟩
  rw [← hl] at HB6 HL6
  have HE6 := Aside0.mk hl
  clear hl
  have K6 := Aside0.mk (hk9.keep _ _ _ _ K5.out hgb (by decide))
  clear hk9 K5
  go_wp2_with fail
  go_at_call 70
  have HT := Aside0.mk (lits_new base b w6.heap.size l6 [⟨#[59, 10]⟩] w6 HB6.out HBB.out rfl (show 1 ≤ 9 by decide) (by
    have := HL.out; have := HL1.out; have := HL2.out; have := HL3.out; have := HL4.out; have := HL5.out; have := HL6.out; 
    have e : (catL [⟨#[59, 10]⟩]).length = 2 := rfl
    rw [e]; omega))
  refine (show Calls Try.prog 70 #[.pointer (some ⟨b, 0, none⟩), .slice (some ⟨w6.heap.size, 0, none⟩) 1 1] _ _ from HT.out).mono ?_
  rintro e w7 h4
  have hk9 := h4.2.2.1
  have h5 := Wrote.then (HK6.out) (HW6.out) h4
  clear h4
  obtain ⟨rfl, hb_, hk_, hw_⟩ := h5
  clear HT
  have HB7 := Aside0.mk hb_
  have HK7 := Aside0.mk hk_
  have HW7 := Aside0.mk hw_
  clear hb_ hk_ hw_ HK6 HW6
  have HL7 := Aside0.mk (show (l6 ++ catL [⟨#[59, 10]⟩]).length = l6.length + 2 by rw [List.length_append]; rfl)
  obtain ⟨l7, hl⟩ : ∃ l_, l_ = l6 ++ catL [⟨#[59, 10]⟩] := ⟨_, rfl⟩
  rw [← hl] at HB7 HL7
  have HE7 := Aside0.mk hl
  clear hl
  have K7 := Aside0.mk (hk9.keep _ _ _ _ K6.out hgb (by decide))
  clear hk9 K6
  go_wp2_with fail
  go_end0
  refine ⟨rfl, ?_, HK7.out, HW7.out⟩
  have := HB7.out
  rw [HE7.out, HE6.out, HE5.out, HE4.out, HE3.out, HE2.out, HE1.out] at this
  have E : l ++ methL false nm s1 s2 = _ := (by simp only [methL, catL_cons, catL_nil, List.append_assoc, List.append_nil]; rfl : l ++ methL false nm s1 s2 = l ++ catL [⟨#[9, 114, 101, 97, 100, 32]⟩] ++ nm.data.toList ++ catL [⟨#[40]⟩] ++ s1.data.toList ++ catL [⟨#[41, 32]⟩] ++ s2.data.toList ++ catL [⟨#[59, 10]⟩])
  rw [E]; exact this
theorem take_flat {α : Type} (g : α → List UInt8) (z : α) (xs : List α) (i : Nat) (h : i < xs.length) : (xs.take (i + 1)).flatMap g = (xs.take i).flatMap g ++ g (xs.getD i z) ∧ ((xs.take i).flatMap g).length + (g (xs.getD i z)).length ≤ (xs.flatMap g).length := by
  have e : (xs.take (i + 1)).flatMap g = (xs.take i).flatMap g ++ g (xs.getD i z) := by
    rw [List.take_succ_eq_append_getElem h, List.flatMap_append]
    simp [List.getD_eq_getElem?_getD, h]
  refine ⟨e, ?_⟩
  have : xs.flatMap g = (xs.take (i + 1)).flatMap g ++ (xs.drop (i + 1)).flatMap g := by rw [← List.flatMap_append, List.take_append_drop]
  rw [this, e, List.length_append, List.length_append]; omega
def wordOf (K : Nat) (t : S50) : List UInt8 := ((parse_word.f K t.f0 t.f1 t.f2).getD ByteArray.empty).data.toList
def OKT (K : Nat) (t : S50) : Prop := parse_Shape.f K t.f0 t.f1 t.f2 = some 0 ∧ ∃ s, parse_word.f K t.f0 t.f1 t.f2 = some s
def fieldL (K : Nat) (f : S52) : List UInt8 := partL f.f1.toNat f.f0 ++ [58, 32] ++ wordOf K f.f2 ++ [59, 10]
def structL (K : Nat) (s : S47) : List UInt8 := beginL ⟨#[115, 116, 114, 117, 99, 116]⟩ s.f0 ++ s.f1.flatMap (fieldL K) ++ [125, 10]
def memberL (f : S88) : List UInt8 := partL f.f1.toNat f.f0 ++ [59, 10]
def enumL (s : S86) : List UInt8 := beginL ⟨#[101, 110, 117, 109]⟩ s.f0 ++ s.f1.flatMap memberL ++ [125, 10]
def methodL (K : Nat) (m : S94) : List UInt8 := methL m.f1 m.f0 ((parse_word.f K m.f2.f0 m.f2.f1 m.f2.f2).getD ByteArray.empty) ((parse_word.f K m.f3.f0 m.f3.f1 m.f3.f2).getD ByteArray.empty)
def serviceL (K : Nat) (s : S91) : List UInt8 := beginL ⟨#[115, 101, 114, 118, 105, 99, 101]⟩ s.f0 ++ s.f1.flatMap (methodL K) ++ [125, 10]
def allL (K : Nat) (x : S40) : List UInt8 := x.f0.flatMap (structL K) ++ x.f1.flatMap enumL ++ x.f2.flatMap (serviceL K)
def NumOk (n : Int) : Prop := 0 ≤ n ∧ n ≤ 999999999
def StructOk (K : Nat) (s : S47) : Prop := nameB s.f0 = true ∧ s.f1.length ≤ 32 ∧ ∀ f ∈ s.f1, nameB f.f0 = true ∧ NumOk f.f1 ∧ OKT K f.f2
def EnumOk (s : S86) : Prop := nameB s.f0 = true ∧ s.f1.length ≤ 32 ∧ ∀ f ∈ s.f1, nameB f.f0 = true ∧ NumOk f.f1
def ServiceOk (K : Nat) (s : S91) : Prop := nameB s.f0 = true ∧ s.f1.length ≤ 32 ∧ ∀ f ∈ s.f1, nameB f.f0 = true ∧ OKT K f.f2 ∧ OKT K f.f3
def SchOk (K : Nat) (x : S40) : Prop := (∀ s ∈ x.f0, StructOk K s) ∧ (∀ s ∈ x.f1, EnumOk s) ∧ (∀ s ∈ x.f2, ServiceOk K s)
end Go.Proofs.Ytoloneoeojoiaaa.EParseBack

