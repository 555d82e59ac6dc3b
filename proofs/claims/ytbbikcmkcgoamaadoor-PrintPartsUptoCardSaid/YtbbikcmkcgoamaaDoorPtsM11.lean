/- Joined by merge.py of this session: words, walks and plain laws of this claim. -/
import Derived.Test.YtbbikcmkcgoamaaDoorPtsM10
/-
  (*looker).node: the walk at elements of the classes that are no boxes.
-/
namespace Go.Proofs.YtbbikcmkcgoamaaDoor.Pp
open Go.RowKit Go.Proofs.YtbbikcmkcgoamaaDoorW.PrintWords Go.Proofs.YtbbikcmkcgoamaaDoorW.PrintLast Go.Proofs.YtbbikcmkcgoamaaDoorW.PrintMore Go.Proofs.YtbbikcmkcgoamaaDoor.My
set_option linter.unusedVariables false
set_option linter.unusedSimpArgs false

set_option maxHeartbeats 16000000 in
set_option maxRecDepth 100000 in
theorem lookNode_four (n : S25) (hin : LookC 23 (lookK n.f3 false) n) (w0 w : World) (b : Nat) (A1 : Option Addr) (c1 : Nat) (A3 : Option Addr) (c3 : Nat) (d : Nat) (box line li : Bool) (c : Nat)
    (h1 : Kd.C k47 w0 A1 n.f1.length n.f1) (l1 : n.f1.length ≤ c1) (h3 : Kd.C k25 w0 A3 n.f3.length n.f3) (l3 : n.f3.length ≤ c3) (hB : Below w0.heap.size w0 w) (hT : Tabs w0) (hsz : tsz n ≤ 70368744177664) (hb : w0.heap.size ≤ b) (hblk : w.heap[b]? = some (.cells #[.int .i64 c] 50 (0, 0))) (hc : c ≤ 2000) (hd : d ≤ 41) (hc1 : c + 1 ≤ 2000) (hd1 : d ≤ 40) (hk : tclass n.f0 = 4) :
    Calls Tryd.prog 33 #[.pointer (some ⟨b, 0, none⟩), lookNodeV n A1 c1 A3 c3, aroundV d box line li] w fun e w' => e = .returned (.bool (lookN n d box line li c).1) ∧ Lk w0.heap.size b (lookN n d box line li c).2 w w' := by
  unfold lookNodeV aroundV
  obtain ⟨R, hR⟩ : ∃ R, R = lookN n d box line li c := ⟨_, rfl⟩
  rw [← hR]
  rw [lookN_eq] at hR
  have HB := Aside0.mk hB
  have HT := Aside0.mk hT
  have HSZ := Aside0.mk hsz
  have HBb := Aside0.mk hb
  have HBL := Aside0.mk hblk
  have HBS := Aside0.mk hB.size
  have H1 := Aside0.mk h1
  have H3 := Aside0.mk h3
  have L1 := Aside0.mk l1
  have L3 := Aside0.mk l3
  have H2 := h3.2.1
  have MIN := Aside0.mk (show ∀ (q : Bool) (v : World), mayOk n.f1 = q → Below w0.heap.size w0 v → Calls Tryd.prog 39 #[.slice A1 n.f1.length c1] v fun e w' => e = .returned (.bool q) ∧ Below v.heap.size v w' from fun q v h hb => h ▸ may_calls n.f1 A1 c1 v (Kd.C_below h1 hb) l1 (hT.below hb))
  have TIN := Aside0.mk (show ∀ (v : World), Calls Tryd.prog 38 #[.pointer (some ⟨b, 0, none⟩), .agg #[.int .i64 n.f0, .slice A1 n.f1.length c1, .string n.f2, .slice A3 n.f3.length c3], .agg #[.int .i64 d, .bool box, .bool line, .bool li]] v fun e w' => e = .returned (.bool (textOk n box)) ∧ Below v.heap.size v w' from fun v => text_calls _ n A1 c1 A3 c3 d box line li v (by unfold tsz at hsz; omega) h1.2.1 h3.2.1)
  clear hB hT hsz hb hblk h1 h3 l1 l3
  have HIN := Aside0.mk hin
  unfold LookC lookNodeV aroundV at HIN
  clear hin
  rw [if_neg (by omega), if_neg (by omega), if_neg (by omega), if_neg (by omega)] at hR
  have b1 : decide ((c : Int) + 1 > 2000) = false := by simp; omega
  have b2 : ¬ (2000 : Int) < (c : Int) + 1 := by omega
  have b3 : decide ((d : Int) > 40) = false := by simp; omega
  have b4 : ¬ (40 : Int) < (d : Int) := by omega
  have HC1 := Aside0.mk hc1
  have HD1 := Aside0.mk (show d + 1 ≤ 41 by omega)
  rw [if_neg (by omega)] at hR
  have k0 : (tclass n.f0 == 0) = false := by rw [hk]; rfl
  have k1 : (tclass n.f0 == 1) = false := by rw [hk]; rfl
  have k2 : (tclass n.f0 == 2) = false := by rw [hk]; rfl
  have k3 : (tclass n.f0 == 3) = false := by rw [hk]; rfl
  have k5 : (tclass n.f0 == 5) = false := by rw [hk]; rfl
  have i1 : inLine n.f0 line = line := by unfold inLine; rw [if_neg (by omega)]
  have i2 : inLi n.f0 li = li := by unfold inLi; rw [if_neg (by omega)]
  rw [k2, i1, i2] at hR
  clear i1 i2 hk hc1 hd1
  cases t1 : n.f2.toList.isEmpty
  · rw [t1, Bool.false_and, if_neg (by simp)] at hR
    subst hR
    have t2 : ¬ n.f2.toList = [] := by intro e; rw [e] at t1; cases t1
    clear t1
    go_enter Tryd.func33, Tryd.ntmps33
    go_wp2_with (first | ((with_reducible refine gate_dst (N := 4) rfl ?_); refine box_event ?hg (N := 4) ?hd (cs := #[.int .i64 n.f0, .slice A1 n.f1.length c1, .string n.f2, .slice A3 n.f3.length c3]) (t := 25) ?hr ?_; (case hd => rfl); (case hg => rfl); (case hr => first | (go_simp; done) | (go_simp; rfl)); intro g1 hg1 v1 hbox hb; have L := Aside0.mk ((Lk.start HBL.out).below HBS.out hb); have K1 := Aside0.mk hbox; have E1 := Aside0.mk (show w.heap.size ≤ g1 from by rw [hg1]; exact Nat.le_refl _); have N1 := Aside0.mk (show g1 ≠ b from by rw [hg1]; exact (Nat.ne_of_lt (blk_lt HBL.out)).symm); clear hg1 hbox hb) | ((with_reducible refine gate_dst (N := 5) rfl ?_); refine box_event ?hg (N := 5) ?hd (cs := #[.int .i64 d, .bool box, .bool line, .bool li]) (t := 53) ?hr ?_; (case hd => rfl); (case hg => rfl); (case hr => first | (go_simp; done) | (go_simp; rfl)); intro g2 hg2 v2 hbox hb; have N12 := Aside0.mk (show g1 ≠ g2 from by rw [hg2]; exact Nat.ne_of_lt (blk_lt K1.out)); have N2 := Aside0.mk (show g2 ≠ b from by rw [hg2]; exact (Nat.ne_of_lt (blk_lt L.out.1)).symm); replace L := Aside0.mk (L.out.below (Nat.le_trans HBS.out L.out.size) hb); replace K1 := Aside0.mk (blk_below K1.out hb); have K2 := Aside0.mk hbox; have xb : v2.cell? ⟨b, 0, none⟩ = some (.int .i64 c) := blk_cell L.out.1 0; have fz : v2.frozen? ⟨b, 0, none⟩ = false := blk_frozen L.out.1 0; clear hg2 hbox hb; have x0 : v2.cell? ⟨g1, 0, none⟩ = some (.int .i64 n.f0) := blk_cell K1.out 0; have x1 : v2.cell? ⟨g1, 1, none⟩ = some (.slice A1 n.f1.length c1) := blk_cell K1.out 1; have x2 : v2.cell? ⟨g1, 2, none⟩ = some (.string n.f2) := blk_cell K1.out 2; have x3 : v2.cell? ⟨g1, 3, none⟩ = some (.slice A3 n.f3.length c3) := blk_cell K1.out 3; have y0 : v2.cell? ⟨g2, 0, none⟩ = some (.int .i64 d) := blk_cell K2.out 0; have y1 : v2.cell? ⟨g2, 1, none⟩ = some (.bool box) := blk_cell K2.out 1; have y2 : v2.cell? ⟨g2, 2, none⟩ = some (.bool line) := blk_cell K2.out 2; have y3 : v2.cell? ⟨g2, 3, none⟩ = some (.bool li) := blk_cell K2.out 3; have n1 := N1.out; have n2 := N2.out; replace K1 := Aside0.mk (((KeepBut.refl v2 b none).set_ 0 (.int .i64 ((c : Int) + 1))).blk K1.out N1.out (by simp)); replace K2 := Aside0.mk (((KeepBut.refl v2 b none).set_ 0 (.int .i64 ((c : Int) + 1))).blk K2.out N2.out (by simp)); replace L := Aside0.mk (L.out.set (c' := c + 1) (v' := (v2.setCell ⟨b, 0, none⟩ (.int .i64 ((c : Int) + 1)))) HBb.out (blk_set L.out.1 0 _) ((KeepBut.refl v2 b none).set_ 0 _) (fun B hB => below_set1 _ _ _ _ hB))) | (go_at_call 27; refine (tags_Class.calls _ _ _ rfl).mono ?_; intro e v4 hh; obtain ⟨rfl, hb⟩ := hh; replace L := Aside0.mk (L.out.below (Nat.le_trans HBS.out L.out.size) hb); replace K1 := Aside0.mk (blk_below K1.out hb); replace K2 := Aside0.mk (blk_below K2.out hb); clear hb xb fz; clear x0 x1 x2 x3; clear y0 y1 y2 y3; have x0 : v4.cell? ⟨g1, 0, none⟩ = some (.int .i64 n.f0) := blk_cell K1.out 0; have x1 : v4.cell? ⟨g1, 1, none⟩ = some (.slice A1 n.f1.length c1) := blk_cell K1.out 1; have x2 : v4.cell? ⟨g1, 2, none⟩ = some (.string n.f2) := blk_cell K1.out 2; have x3 : v4.cell? ⟨g1, 3, none⟩ = some (.slice A3 n.f3.length c3) := blk_cell K1.out 3; have y0 : v4.cell? ⟨g2, 0, none⟩ = some (.int .i64 d) := blk_cell K2.out 0; have y1 : v4.cell? ⟨g2, 1, none⟩ = some (.bool box) := blk_cell K2.out 1; have y2 : v4.cell? ⟨g2, 2, none⟩ = some (.bool line) := blk_cell K2.out 2; have y3 : v4.cell? ⟨g2, 3, none⟩ = some (.bool li) := blk_cell K2.out 3; have p1 := blk_lt K1.out; have p2 := blk_lt K2.out; have N3 := Aside0.mk (show v4.heap.size ≠ b from (Nat.ne_of_lt (blk_lt L.out.1)).symm); have hb := (Below.refl v4.heap.size v4).alloc (Nat.le_refl _) (.cells #[.int .i64 ((d : Int) + 1), .bool false, .bool line, .bool li] 53); replace L := Aside0.mk (L.out.below (Nat.le_trans HBS.out L.out.size) hb); replace K1 := Aside0.mk (blk_below K1.out hb); replace K2 := Aside0.mk (blk_below K2.out hb); have K3 := Aside0.mk (blk_new v4 (.cells #[.int .i64 ((d : Int) + 1), .bool false, .bool line, .bool li] 53)); clear hb))
    go_ret
    exact ⟨rfl, L.out⟩
  have t2 : n.f2.toList = [] := by simpa using t1
  rw [t1, Bool.true_and] at hR
  clear t1
  cases t3 : mayOk n.f1
  · rw [t3, if_neg (by simp)] at hR
    subst hR
    have HM := Aside0.mk t3
    clear t3
    go_enter Tryd.func33, Tryd.ntmps33
    go_wp2_with (first | ((with_reducible refine gate_dst (N := 4) rfl ?_); refine box_event ?hg (N := 4) ?hd (cs := #[.int .i64 n.f0, .slice A1 n.f1.length c1, .string n.f2, .slice A3 n.f3.length c3]) (t := 25) ?hr ?_; (case hd => rfl); (case hg => rfl); (case hr => first | (go_simp; done) | (go_simp; rfl)); intro g1 hg1 v1 hbox hb; have L := Aside0.mk ((Lk.start HBL.out).below HBS.out hb); have K1 := Aside0.mk hbox; have E1 := Aside0.mk (show w.heap.size ≤ g1 from by rw [hg1]; exact Nat.le_refl _); have N1 := Aside0.mk (show g1 ≠ b from by rw [hg1]; exact (Nat.ne_of_lt (blk_lt HBL.out)).symm); clear hg1 hbox hb) | ((with_reducible refine gate_dst (N := 5) rfl ?_); refine box_event ?hg (N := 5) ?hd (cs := #[.int .i64 d, .bool box, .bool line, .bool li]) (t := 53) ?hr ?_; (case hd => rfl); (case hg => rfl); (case hr => first | (go_simp; done) | (go_simp; rfl)); intro g2 hg2 v2 hbox hb; have N12 := Aside0.mk (show g1 ≠ g2 from by rw [hg2]; exact Nat.ne_of_lt (blk_lt K1.out)); have N2 := Aside0.mk (show g2 ≠ b from by rw [hg2]; exact (Nat.ne_of_lt (blk_lt L.out.1)).symm); replace L := Aside0.mk (L.out.below (Nat.le_trans HBS.out L.out.size) hb); replace K1 := Aside0.mk (blk_below K1.out hb); have K2 := Aside0.mk hbox; have xb : v2.cell? ⟨b, 0, none⟩ = some (.int .i64 c) := blk_cell L.out.1 0; have fz : v2.frozen? ⟨b, 0, none⟩ = false := blk_frozen L.out.1 0; clear hg2 hbox hb; have x0 : v2.cell? ⟨g1, 0, none⟩ = some (.int .i64 n.f0) := blk_cell K1.out 0; have x1 : v2.cell? ⟨g1, 1, none⟩ = some (.slice A1 n.f1.length c1) := blk_cell K1.out 1; have x2 : v2.cell? ⟨g1, 2, none⟩ = some (.string n.f2) := blk_cell K1.out 2; have x3 : v2.cell? ⟨g1, 3, none⟩ = some (.slice A3 n.f3.length c3) := blk_cell K1.out 3; have y0 : v2.cell? ⟨g2, 0, none⟩ = some (.int .i64 d) := blk_cell K2.out 0; have y1 : v2.cell? ⟨g2, 1, none⟩ = some (.bool box) := blk_cell K2.out 1; have y2 : v2.cell? ⟨g2, 2, none⟩ = some (.bool line) := blk_cell K2.out 2; have y3 : v2.cell? ⟨g2, 3, none⟩ = some (.bool li) := blk_cell K2.out 3; have n1 := N1.out; have n2 := N2.out; replace K1 := Aside0.mk (((KeepBut.refl v2 b none).set_ 0 (.int .i64 ((c : Int) + 1))).blk K1.out N1.out (by simp)); replace K2 := Aside0.mk (((KeepBut.refl v2 b none).set_ 0 (.int .i64 ((c : Int) + 1))).blk K2.out N2.out (by simp)); replace L := Aside0.mk (L.out.set (c' := c + 1) (v' := (v2.setCell ⟨b, 0, none⟩ (.int .i64 ((c : Int) + 1)))) HBb.out (blk_set L.out.1 0 _) ((KeepBut.refl v2 b none).set_ 0 _) (fun B hB => below_set1 _ _ _ _ hB))) | (go_at_call 27; refine (tags_Class.calls _ _ _ rfl).mono ?_; intro e v4 hh; obtain ⟨rfl, hb⟩ := hh; replace L := Aside0.mk (L.out.below (Nat.le_trans HBS.out L.out.size) hb); replace K1 := Aside0.mk (blk_below K1.out hb); replace K2 := Aside0.mk (blk_below K2.out hb); clear hb xb fz; clear x0 x1 x2 x3; clear y0 y1 y2 y3; have x0 : v4.cell? ⟨g1, 0, none⟩ = some (.int .i64 n.f0) := blk_cell K1.out 0; have x1 : v4.cell? ⟨g1, 1, none⟩ = some (.slice A1 n.f1.length c1) := blk_cell K1.out 1; have x2 : v4.cell? ⟨g1, 2, none⟩ = some (.string n.f2) := blk_cell K1.out 2; have x3 : v4.cell? ⟨g1, 3, none⟩ = some (.slice A3 n.f3.length c3) := blk_cell K1.out 3; have y0 : v4.cell? ⟨g2, 0, none⟩ = some (.int .i64 d) := blk_cell K2.out 0; have y1 : v4.cell? ⟨g2, 1, none⟩ = some (.bool box) := blk_cell K2.out 1; have y2 : v4.cell? ⟨g2, 2, none⟩ = some (.bool line) := blk_cell K2.out 2; have y3 : v4.cell? ⟨g2, 3, none⟩ = some (.bool li) := blk_cell K2.out 3; have p1 := blk_lt K1.out; have p2 := blk_lt K2.out; have N3 := Aside0.mk (show v4.heap.size ≠ b from (Nat.ne_of_lt (blk_lt L.out.1)).symm); have hb := (Below.refl v4.heap.size v4).alloc (Nat.le_refl _) (.cells #[.int .i64 ((d : Int) + 1), .bool false, .bool line, .bool li] 53); replace L := Aside0.mk (L.out.below (Nat.le_trans HBS.out L.out.size) hb); replace K1 := Aside0.mk (blk_below K1.out hb); replace K2 := Aside0.mk (blk_below K2.out hb); have K3 := Aside0.mk (blk_new v4 (.cells #[.int .i64 ((d : Int) + 1), .bool false, .bool line, .bool li] 53)); clear hb) | (go_at_call 39; refine (MIN.out false _ HM.out (HB.out.trans L.out.2.1)).mono ?_; intro e v9 hh; obtain ⟨rfl, hb⟩ := hh; replace L := Aside0.mk (L.out.below (Nat.le_trans HBS.out L.out.size) hb); replace K1 := Aside0.mk (blk_below K1.out hb); replace K2 := Aside0.mk (blk_below K2.out hb); replace K3 := Aside0.mk (blk_below K3.out hb); clear hb; clear x0 x1 x2 x3; have x0 : v9.cell? ⟨g1, 0, none⟩ = some (.int .i64 n.f0) := blk_cell K1.out 0; have x1 : v9.cell? ⟨g1, 1, none⟩ = some (.slice A1 n.f1.length c1) := blk_cell K1.out 1; have x2 : v9.cell? ⟨g1, 2, none⟩ = some (.string n.f2) := blk_cell K1.out 2; have x3 : v9.cell? ⟨g1, 3, none⟩ = some (.slice A3 n.f3.length c3) := blk_cell K1.out 3; have z0 : v9.cell? ⟨v4.heap.size, 0, none⟩ = some (.int .i64 ((d : Int) + 1)) := blk_cell K3.out 0; have z1 : v9.cell? ⟨v4.heap.size, 1, none⟩ = some (.bool false) := blk_cell K3.out 1; have z2 : v9.cell? ⟨v4.heap.size, 2, none⟩ = some (.bool line) := blk_cell K3.out 2; have z3 : v9.cell? ⟨v4.heap.size, 3, none⟩ = some (.bool li) := blk_cell K3.out 3))
    go_ret
    exact ⟨rfl, L.out⟩
  rw [t3, if_pos rfl] at hR
  subst hR
  have HM := Aside0.mk t3
  clear t3
  go_enter Tryd.func33, Tryd.ntmps33
  go_wp2_with (first | ((with_reducible refine gate_dst (N := 4) rfl ?_); refine box_event ?hg (N := 4) ?hd (cs := #[.int .i64 n.f0, .slice A1 n.f1.length c1, .string n.f2, .slice A3 n.f3.length c3]) (t := 25) ?hr ?_; (case hd => rfl); (case hg => rfl); (case hr => first | (go_simp; done) | (go_simp; rfl)); intro g1 hg1 v1 hbox hb; have L := Aside0.mk ((Lk.start HBL.out).below HBS.out hb); have K1 := Aside0.mk hbox; have E1 := Aside0.mk (show w.heap.size ≤ g1 from by rw [hg1]; exact Nat.le_refl _); have N1 := Aside0.mk (show g1 ≠ b from by rw [hg1]; exact (Nat.ne_of_lt (blk_lt HBL.out)).symm); clear hg1 hbox hb) | ((with_reducible refine gate_dst (N := 5) rfl ?_); refine box_event ?hg (N := 5) ?hd (cs := #[.int .i64 d, .bool box, .bool line, .bool li]) (t := 53) ?hr ?_; (case hd => rfl); (case hg => rfl); (case hr => first | (go_simp; done) | (go_simp; rfl)); intro g2 hg2 v2 hbox hb; have N12 := Aside0.mk (show g1 ≠ g2 from by rw [hg2]; exact Nat.ne_of_lt (blk_lt K1.out)); have N2 := Aside0.mk (show g2 ≠ b from by rw [hg2]; exact (Nat.ne_of_lt (blk_lt L.out.1)).symm); replace L := Aside0.mk (L.out.below (Nat.le_trans HBS.out L.out.size) hb); replace K1 := Aside0.mk (blk_below K1.out hb); have K2 := Aside0.mk hbox; have xb : v2.cell? ⟨b, 0, none⟩ = some (.int .i64 c) := blk_cell L.out.1 0; have fz : v2.frozen? ⟨b, 0, none⟩ = false := blk_frozen L.out.1 0; clear hg2 hbox hb; have x0 : v2.cell? ⟨g1, 0, none⟩ = some (.int .i64 n.f0) := blk_cell K1.out 0; have x1 : v2.cell? ⟨g1, 1, none⟩ = some (.slice A1 n.f1.length c1) := blk_cell K1.out 1; have x2 : v2.cell? ⟨g1, 2, none⟩ = some (.string n.f2) := blk_cell K1.out 2; have x3 : v2.cell? ⟨g1, 3, none⟩ = some (.slice A3 n.f3.length c3) := blk_cell K1.out 3; have y0 : v2.cell? ⟨g2, 0, none⟩ = some (.int .i64 d) := blk_cell K2.out 0; have y1 : v2.cell? ⟨g2, 1, none⟩ = some (.bool box) := blk_cell K2.out 1; have y2 : v2.cell? ⟨g2, 2, none⟩ = some (.bool line) := blk_cell K2.out 2; have y3 : v2.cell? ⟨g2, 3, none⟩ = some (.bool li) := blk_cell K2.out 3; have n1 := N1.out; have n2 := N2.out; replace K1 := Aside0.mk (((KeepBut.refl v2 b none).set_ 0 (.int .i64 ((c : Int) + 1))).blk K1.out N1.out (by simp)); replace K2 := Aside0.mk (((KeepBut.refl v2 b none).set_ 0 (.int .i64 ((c : Int) + 1))).blk K2.out N2.out (by simp)); replace L := Aside0.mk (L.out.set (c' := c + 1) (v' := (v2.setCell ⟨b, 0, none⟩ (.int .i64 ((c : Int) + 1)))) HBb.out (blk_set L.out.1 0 _) ((KeepBut.refl v2 b none).set_ 0 _) (fun B hB => below_set1 _ _ _ _ hB))) | (go_at_call 27; refine (tags_Class.calls _ _ _ rfl).mono ?_; intro e v4 hh; obtain ⟨rfl, hb⟩ := hh; replace L := Aside0.mk (L.out.below (Nat.le_trans HBS.out L.out.size) hb); replace K1 := Aside0.mk (blk_below K1.out hb); replace K2 := Aside0.mk (blk_below K2.out hb); clear hb xb fz; clear x0 x1 x2 x3; clear y0 y1 y2 y3; have x0 : v4.cell? ⟨g1, 0, none⟩ = some (.int .i64 n.f0) := blk_cell K1.out 0; have x1 : v4.cell? ⟨g1, 1, none⟩ = some (.slice A1 n.f1.length c1) := blk_cell K1.out 1; have x2 : v4.cell? ⟨g1, 2, none⟩ = some (.string n.f2) := blk_cell K1.out 2; have x3 : v4.cell? ⟨g1, 3, none⟩ = some (.slice A3 n.f3.length c3) := blk_cell K1.out 3; have y0 : v4.cell? ⟨g2, 0, none⟩ = some (.int .i64 d) := blk_cell K2.out 0; have y1 : v4.cell? ⟨g2, 1, none⟩ = some (.bool box) := blk_cell K2.out 1; have y2 : v4.cell? ⟨g2, 2, none⟩ = some (.bool line) := blk_cell K2.out 2; have y3 : v4.cell? ⟨g2, 3, none⟩ = some (.bool li) := blk_cell K2.out 3; have p1 := blk_lt K1.out; have p2 := blk_lt K2.out; have N3 := Aside0.mk (show v4.heap.size ≠ b from (Nat.ne_of_lt (blk_lt L.out.1)).symm); have hb := (Below.refl v4.heap.size v4).alloc (Nat.le_refl _) (.cells #[.int .i64 ((d : Int) + 1), .bool false, .bool line, .bool li] 53); replace L := Aside0.mk (L.out.below (Nat.le_trans HBS.out L.out.size) hb); replace K1 := Aside0.mk (blk_below K1.out hb); replace K2 := Aside0.mk (blk_below K2.out hb); have K3 := Aside0.mk (blk_new v4 (.cells #[.int .i64 ((d : Int) + 1), .bool false, .bool line, .bool li] 53)); clear hb) | (go_at_call 39; refine (MIN.out true _ HM.out (HB.out.trans L.out.2.1)).mono ?_; intro e v9 hh; obtain ⟨rfl, hb⟩ := hh; replace L := Aside0.mk (L.out.below (Nat.le_trans HBS.out L.out.size) hb); replace K1 := Aside0.mk (blk_below K1.out hb); replace K2 := Aside0.mk (blk_below K2.out hb); replace K3 := Aside0.mk (blk_below K3.out hb); clear hb; clear x0 x1 x2 x3; have x0 : v9.cell? ⟨g1, 0, none⟩ = some (.int .i64 n.f0) := blk_cell K1.out 0; have x1 : v9.cell? ⟨g1, 1, none⟩ = some (.slice A1 n.f1.length c1) := blk_cell K1.out 1; have x2 : v9.cell? ⟨g1, 2, none⟩ = some (.string n.f2) := blk_cell K1.out 2; have x3 : v9.cell? ⟨g1, 3, none⟩ = some (.slice A3 n.f3.length c3) := blk_cell K1.out 3; have z0 : v9.cell? ⟨v4.heap.size, 0, none⟩ = some (.int .i64 ((d : Int) + 1)) := blk_cell K3.out 0; have z1 : v9.cell? ⟨v4.heap.size, 1, none⟩ = some (.bool false) := blk_cell K3.out 1; have z2 : v9.cell? ⟨v4.heap.size, 2, none⟩ = some (.bool line) := blk_cell K3.out 2; have z3 : v9.cell? ⟨v4.heap.size, 3, none⟩ = some (.bool li) := blk_cell K3.out 3) | (go_at_call 23; refine (HIN.out w0 _ b A1 c1 A3 c3 (d + 1) false line li (c + 1) H1.out L1.out H3.out L3.out (HB.out.trans L.out.2.1) HT.out HSZ.out HBb.out L.out.1 HC1.out HD1.out).mono ?_; first | (rintro e v10 ⟨rfl, h1⟩; replace L := Aside0.mk (L.out.trans h1); clear h1) | (rintro e v10 rfl h1; replace L := Aside0.mk (L.out.trans h1); clear h1)))
  go_ret
  exact ⟨rfl, L.out⟩

set_option maxHeartbeats 16000000 in
set_option maxRecDepth 100000 in
theorem lookNode_3_line (n : S25) (hin : LookC 23 (lookK n.f3 false) n) (w0 w : World) (b : Nat) (A1 : Option Addr) (c1 : Nat) (A3 : Option Addr) (c3 : Nat) (d : Nat) (box line li : Bool) (c : Nat)
    (h1 : Kd.C k47 w0 A1 n.f1.length n.f1) (l1 : n.f1.length ≤ c1) (h3 : Kd.C k25 w0 A3 n.f3.length n.f3) (l3 : n.f3.length ≤ c3) (hB : Below w0.heap.size w0 w) (hT : Tabs w0) (hsz : tsz n ≤ 70368744177664) (hb : w0.heap.size ≤ b) (hblk : w.heap[b]? = some (.cells #[.int .i64 c] 50 (0, 0))) (hc : c ≤ 2000) (hd : d ≤ 41) (hc1 : c + 1 ≤ 2000) (hd1 : d ≤ 40) (hk : tclass n.f0 = 3) (hl : line = true) :
    Calls Tryd.prog 33 #[.pointer (some ⟨b, 0, none⟩), lookNodeV n A1 c1 A3 c3, aroundV d box line li] w fun e w' => e = .returned (.bool (lookN n d box line li c).1) ∧ Lk w0.heap.size b (lookN n d box line li c).2 w w' := by
  unfold lookNodeV aroundV
  obtain ⟨R, hR⟩ : ∃ R, R = lookN n d box line li c := ⟨_, rfl⟩
  rw [← hR]
  rw [lookN_eq] at hR
  have HB := Aside0.mk hB
  have HT := Aside0.mk hT
  have HSZ := Aside0.mk hsz
  have HBb := Aside0.mk hb
  have HBL := Aside0.mk hblk
  have HBS := Aside0.mk hB.size
  have H1 := Aside0.mk h1
  have H3 := Aside0.mk h3
  have L1 := Aside0.mk l1
  have L3 := Aside0.mk l3
  have H2 := h3.2.1
  have MIN := Aside0.mk (show ∀ (q : Bool) (v : World), mayOk n.f1 = q → Below w0.heap.size w0 v → Calls Tryd.prog 39 #[.slice A1 n.f1.length c1] v fun e w' => e = .returned (.bool q) ∧ Below v.heap.size v w' from fun q v h hb => h ▸ may_calls n.f1 A1 c1 v (Kd.C_below h1 hb) l1 (hT.below hb))
  have TIN := Aside0.mk (show ∀ (v : World), Calls Tryd.prog 38 #[.pointer (some ⟨b, 0, none⟩), .agg #[.int .i64 n.f0, .slice A1 n.f1.length c1, .string n.f2, .slice A3 n.f3.length c3], .agg #[.int .i64 d, .bool box, .bool line, .bool li]] v fun e w' => e = .returned (.bool (textOk n box)) ∧ Below v.heap.size v w' from fun v => text_calls _ n A1 c1 A3 c3 d box line li v (by unfold tsz at hsz; omega) h1.2.1 h3.2.1)
  clear hB hT hsz hb hblk h1 h3 l1 l3
  have HIN := Aside0.mk hin
  unfold LookC lookNodeV aroundV at HIN
  clear hin
  rw [if_neg (by omega), if_neg (by omega), if_neg (by omega), if_neg (by omega)] at hR
  have b1 : decide ((c : Int) + 1 > 2000) = false := by simp; omega
  have b2 : ¬ (2000 : Int) < (c : Int) + 1 := by omega
  have b3 : decide ((d : Int) > 40) = false := by simp; omega
  have b4 : ¬ (40 : Int) < (d : Int) := by omega
  have HC1 := Aside0.mk hc1
  have HD1 := Aside0.mk (show d + 1 ≤ 41 by omega)
  subst hl
  rw [if_pos ⟨by omega, by simp⟩] at hR
  have k0 : (tclass n.f0 == 0) = false := by rw [hk]; rfl
  have k1 : (tclass n.f0 == 1) = false := by rw [hk]; rfl
  have k2 : (tclass n.f0 == 2) = false := by rw [hk]; rfl
  have k3 : (tclass n.f0 == 3) = true := by rw [hk]; rfl
  have k5 : (tclass n.f0 == 5) = false := by rw [hk]; rfl
  clear hk hc1 hd1
  subst hR
  go_enter Tryd.func33, Tryd.ntmps33
  go_wp2_with (first | ((with_reducible refine gate_dst (N := 4) rfl ?_); refine box_event ?hg (N := 4) ?hd (cs := #[.int .i64 n.f0, .slice A1 n.f1.length c1, .string n.f2, .slice A3 n.f3.length c3]) (t := 25) ?hr ?_; (case hd => rfl); (case hg => rfl); (case hr => first | (go_simp; done) | (go_simp; rfl)); intro g1 hg1 v1 hbox hb; have L := Aside0.mk ((Lk.start HBL.out).below HBS.out hb); have K1 := Aside0.mk hbox; have E1 := Aside0.mk (show w.heap.size ≤ g1 from by rw [hg1]; exact Nat.le_refl _); have N1 := Aside0.mk (show g1 ≠ b from by rw [hg1]; exact (Nat.ne_of_lt (blk_lt HBL.out)).symm); clear hg1 hbox hb) | ((with_reducible refine gate_dst (N := 5) rfl ?_); refine box_event ?hg (N := 5) ?hd (cs := #[.int .i64 d, .bool box, .bool true, .bool li]) (t := 53) ?hr ?_; (case hd => rfl); (case hg => rfl); (case hr => first | (go_simp; done) | (go_simp; rfl)); intro g2 hg2 v2 hbox hb; have N12 := Aside0.mk (show g1 ≠ g2 from by rw [hg2]; exact Nat.ne_of_lt (blk_lt K1.out)); have N2 := Aside0.mk (show g2 ≠ b from by rw [hg2]; exact (Nat.ne_of_lt (blk_lt L.out.1)).symm); replace L := Aside0.mk (L.out.below (Nat.le_trans HBS.out L.out.size) hb); replace K1 := Aside0.mk (blk_below K1.out hb); have K2 := Aside0.mk hbox; have xb : v2.cell? ⟨b, 0, none⟩ = some (.int .i64 c) := blk_cell L.out.1 0; have fz : v2.frozen? ⟨b, 0, none⟩ = false := blk_frozen L.out.1 0; clear hg2 hbox hb; have x0 : v2.cell? ⟨g1, 0, none⟩ = some (.int .i64 n.f0) := blk_cell K1.out 0; have x1 : v2.cell? ⟨g1, 1, none⟩ = some (.slice A1 n.f1.length c1) := blk_cell K1.out 1; have x2 : v2.cell? ⟨g1, 2, none⟩ = some (.string n.f2) := blk_cell K1.out 2; have x3 : v2.cell? ⟨g1, 3, none⟩ = some (.slice A3 n.f3.length c3) := blk_cell K1.out 3; have y0 : v2.cell? ⟨g2, 0, none⟩ = some (.int .i64 d) := blk_cell K2.out 0; have y1 : v2.cell? ⟨g2, 1, none⟩ = some (.bool box) := blk_cell K2.out 1; have y2 : v2.cell? ⟨g2, 2, none⟩ = some (.bool true) := blk_cell K2.out 2; have y3 : v2.cell? ⟨g2, 3, none⟩ = some (.bool li) := blk_cell K2.out 3; have n1 := N1.out; have n2 := N2.out; replace K1 := Aside0.mk (((KeepBut.refl v2 b none).set_ 0 (.int .i64 ((c : Int) + 1))).blk K1.out N1.out (by simp)); replace K2 := Aside0.mk (((KeepBut.refl v2 b none).set_ 0 (.int .i64 ((c : Int) + 1))).blk K2.out N2.out (by simp)); replace L := Aside0.mk (L.out.set (c' := c + 1) (v' := (v2.setCell ⟨b, 0, none⟩ (.int .i64 ((c : Int) + 1)))) HBb.out (blk_set L.out.1 0 _) ((KeepBut.refl v2 b none).set_ 0 _) (fun B hB => below_set1 _ _ _ _ hB))) | (go_at_call 27; refine (tags_Class.calls _ _ _ rfl).mono ?_; intro e v4 hh; obtain ⟨rfl, hb⟩ := hh; replace L := Aside0.mk (L.out.below (Nat.le_trans HBS.out L.out.size) hb); replace K1 := Aside0.mk (blk_below K1.out hb); replace K2 := Aside0.mk (blk_below K2.out hb); clear hb xb fz; clear x0 x1 x2 x3; clear y0 y1 y2 y3; have x0 : v4.cell? ⟨g1, 0, none⟩ = some (.int .i64 n.f0) := blk_cell K1.out 0; have x1 : v4.cell? ⟨g1, 1, none⟩ = some (.slice A1 n.f1.length c1) := blk_cell K1.out 1; have x2 : v4.cell? ⟨g1, 2, none⟩ = some (.string n.f2) := blk_cell K1.out 2; have x3 : v4.cell? ⟨g1, 3, none⟩ = some (.slice A3 n.f3.length c3) := blk_cell K1.out 3; have y0 : v4.cell? ⟨g2, 0, none⟩ = some (.int .i64 d) := blk_cell K2.out 0; have y1 : v4.cell? ⟨g2, 1, none⟩ = some (.bool box) := blk_cell K2.out 1; have y2 : v4.cell? ⟨g2, 2, none⟩ = some (.bool true) := blk_cell K2.out 2; have y3 : v4.cell? ⟨g2, 3, none⟩ = some (.bool li) := blk_cell K2.out 3; have p1 := blk_lt K1.out; have p2 := blk_lt K2.out; have N3 := Aside0.mk (show v4.heap.size ≠ b from (Nat.ne_of_lt (blk_lt L.out.1)).symm); have hb := (Below.refl v4.heap.size v4).alloc (Nat.le_refl _) (.cells #[.int .i64 ((d : Int) + 1), .bool false, .bool true, .bool li] 53); replace L := Aside0.mk (L.out.below (Nat.le_trans HBS.out L.out.size) hb); replace K1 := Aside0.mk (blk_below K1.out hb); replace K2 := Aside0.mk (blk_below K2.out hb); have K3 := Aside0.mk (blk_new v4 (.cells #[.int .i64 ((d : Int) + 1), .bool false, .bool true, .bool li] 53)); clear hb))
  go_ret
  exact ⟨rfl, L.out⟩

end Go.Proofs.YtbbikcmkcgoamaaDoor.Pp
