/- Joined by merge.py of this session: words, walks and plain laws of this claim. -/
import Derived.Test.YtbbikcmkcgoamaaDoorPtsM9
import Derived.Test.YtbbikcmkcgoamaaDoorPtsM8
import Derived.Test.YtbbikcmkcgoamaaDoorRows
import Derived.Deep.Slices
import Derived.Deep.Fields
import Derived.ChangeSame
import Derived.Test.YtbbikcmkcgoamaaDoorCards
import Derived.Test.YtbbikcmkcgoamaaDoorTie
import Derived.WalkKit
import Derived.ProofKit
import Derived.OpenShut
import Derived.Carry
import Derived.Lib.LaidIn
import Derived.Lib.LaidU8T
import Derived.Deep.DeepHandedRow
import Derived.Deep.DeepWitnessRowRef
import Derived.PinnedBridge
/-
  (*looker).kids and (*looker).node: may the kids of a node, may a node stand where it stands, as plain functions of the tree and of the count; what the two methods leave of the looker.
-/
namespace Go.Proofs.YtbbikcmkcgoamaaDoor.Pp
open Go.RowKit Go.Proofs.YtbbikcmkcgoamaaDoorW.PrintWords Go.Proofs.YtbbikcmkcgoamaaDoorW.PrintLast Go.Proofs.YtbbikcmkcgoamaaDoorW.PrintMore Go.Proofs.YtbbikcmkcgoamaaDoor.My
set_option linter.unusedVariables false
set_option linter.unusedSimpArgs false

def inLine (t : Int) (line : Bool) : Bool := if tclass t = 3 ∨ tclass t = 2 then (tclass t == 3 && t != 9) else line
def inLi (t : Int) (li : Bool) : Bool := if tclass t = 3 ∨ tclass t = 2 then (t == 9 || (li && t != 7 && t != 8)) else li
mutual
/-- May the node stand there, and the count behind it. -/
def lookN : S25 → Nat → Bool → Bool → Bool → Nat → Bool × Nat
  | ⟨t, l, tx, ks⟩, d, box, line, li, c =>
    if 2000 < c + 1 ∨ 40 < d then (false, c + 1)
    else if tclass t = 0 then (false, c + 1)
    else if tclass t = 1 then (textOk ⟨t, l, tx, ks⟩ box, c + 1)
    else if tclass t = 5 then (tx.toList.isEmpty && (mayOk l && decide (ks.length = 0)), c + 1)
    else if (tclass t = 3 ∨ tclass t = 2) ∧ (line || (t == 9 && li)) = true then (false, c + 1)
    else if (tx.toList.isEmpty && mayOk l) = true then lookK ks false (d + 1) (tclass t == 2) (inLine t line) (inLi t li) (c + 1) else (false, c + 1)
def lookK : List S25 → Bool → Nat → Bool → Bool → Bool → Nat → Bool × Nat
  | [], _, _, _, _, _, c => (true, c)
  | k :: ks, pt, d, box, line, li, c => if (pt && k.f0 == 0) = true then (false, c) else if (lookN k d box line li c).1 = true then lookK ks (k.f0 == 0) d box line li (lookN k d box line li c).2 else (false, (lookN k d box line li c).2)
end
mutual
theorem lookN_le : ∀ (n : S25) (d : Nat) (box line li : Bool) (c : Nat), c ≤ 2000 → (lookN n d box line li c).2 ≤ 2001 ∧ ((lookN n d box line li c).1 = true → (lookN n d box line li c).2 ≤ 2000)
  | ⟨t, l, tx, ks⟩, d, box, line, li, c, hc => by
    unfold lookN
    split
    · exact ⟨by simp; omega, by simp⟩
    · rename_i h
      have h1 : c + 1 ≤ 2000 := by omega
      split
      · exact ⟨by simp; omega, by simp⟩
      · split
        · exact ⟨by simp; omega, fun _ => h1⟩
        · split
          · exact ⟨by simp; omega, fun _ => h1⟩
          · split
            · exact ⟨by simp; omega, by simp⟩
            · split
              · exact lookK_le ks _ _ _ _ _ _ h1
              · exact ⟨by simp; omega, by simp⟩
theorem lookK_le : ∀ (l : List S25) (pt : Bool) (d : Nat) (box line li : Bool) (c : Nat), c ≤ 2000 → (lookK l pt d box line li c).2 ≤ 2001 ∧ ((lookK l pt d box line li c).1 = true → (lookK l pt d box line li c).2 ≤ 2000)
  | [], _, _, _, _, _, c, hc => by unfold lookK; exact ⟨by simp; omega, fun _ => hc⟩
  | k :: ks, pt, d, box, line, li, c, hc => by
    unfold lookK
    have h0 := lookN_le k d box line li c hc
    split
    · exact ⟨by simp; omega, by simp⟩
    · split
      · rename_i h
        exact lookK_le ks _ _ _ _ _ _ (h0.2 h)
      · exact ⟨h0.1, by simp⟩
end
/-- All bytes of the texts. -/
def tszK : List S25 → Nat
  | [] => 0
  | ⟨_, _, tx, ks⟩ :: r => tx.size + tszK ks + tszK r
def tsz (n : S25) : Nat := n.f2.size + tszK n.f3
theorem tszK_cons (k : S25) (r : List S25) : tszK (k :: r) = tsz k + tszK r := by cases k; simp [tszK, tsz]
theorem tsz_mem : ∀ {l : List S25} {k : S25}, k ∈ l → tsz k ≤ tszK l
  | a :: l, k, h => by
    rw [tszK_cons]
    rcases List.mem_cons.1 h with rfl | h
    · omega
    · have := tsz_mem h; omega

/-- What a method of the looker in block b leaves: the count c in it, all else as it was. -/
def Lk (B b : Nat) (c : Nat) (w v : World) : Prop := v.heap[b]? = some (.cells #[.int .i64 c] 50 (0, 0)) ∧ Below B w v ∧ KeepBut w v b none
theorem Lk.trans {B b c c' : Nat} {w v v' : World} (h : Lk B b c w v) (k : Lk B b c' v v') : Lk B b c' w v' := ⟨k.1, h.2.1.trans k.2.1, h.2.2.trans k.2.2 (.inl rfl)⟩
theorem Lk.below {B b c : Nat} {w v v' : World} (h : Lk B b c w v) (hB : B ≤ v.heap.size) (hb : Below v.heap.size v v') : Lk B b c w v' := ⟨blk_below h.1 hb, h.2.1.trans (hb.mono hB), h.2.2.trans (KeepBut.of_below hb b none) (.inl rfl)⟩
theorem Lk.blk {B b c : Nat} {w v : World} (h : Lk B b c w v) {g : Nat} {o : Obj} (hg : w.heap[g]? = some o) (hne : g ≠ b) : v.heap[g]? = some o := h.2.2.blk hg hne (by simp)
theorem Lk.start {B b c : Nat} {w : World} (h : w.heap[b]? = some (.cells #[.int .i64 c] 50 (0, 0))) : Lk B b c w w := ⟨h, Below.refl _ _, KeepBut.refl _ _ _⟩
theorem Lk.size {B b c : Nat} {w v : World} (h : Lk B b c w v) : w.heap.size ≤ v.heap.size := h.2.1.size

section
variable {P : Program} {ops : Array Oper} {rest : List Oper} {o : Oper} {a : Act} {Q : Exit → Act → World → Prop}
/-- A store into one cell of a block that is known. -/
theorem cellset_event (hgd : o.guard = none) (ty : TypeId) (x y : Operand) (ho : o.op = .store ty x y) {W : World} (g i : Nat) (cs : Array Value) (t : TypeId) (u : Value) (hx : a.eval x = .pointer (some ⟨g, i, none⟩)) (hy : a.eval y = u) (hu : u.cells.toList = [u]) (h1 : u.oneCell' = true) (hi : (P.info? ty).map (·.size) = some 1)
    (hb : W.heap[g]? = some (.cells cs t (0, 0))) (hlt : i < cs.size)
    (h : ∀ W1, W1.heap[g]? = some (.cells (cs.setIfInBounds i u) t (0, 0)) → KeepBut W W1 g none → (∀ B, B ≤ g → Below B W W1) → wpList P ops Q rest (a.put o.dst undef) W1) : wpList P ops Q (o :: rest) a W := by
  have hrun := run_store_run (P := P) ty u [u] hb hu hi (by show i + 1 ≤ cs.size; omega) (by simpa using h1)
  have hw : W.setCells g i [u] = W.setCell ⟨g, i, none⟩ u := rfl
  rw [hw] at hrun
  refine wpList_plain hgd fun K hK => ?_
  unfold Oper.wp execOp
  simp only [ho, hx, hy, Sem.run_bind, Sem.run_pure, Result.andThen_ok, hrun]
  refine hK _ _ (h _ (blk_set hb i u) ((KeepBut.refl W g none).set_ i u) (fun B hB => ?_))
  obtain ⟨s1, s2, s3, s4⟩ := setCells_same g [u] i W
  refine ⟨s1, s2, s3, by rw [← hw, s4]; exact Nat.le_refl _, fun k hk => ?_⟩
  have e : k ≠ g := by omega
  exact setCells_far [u] i k e
end
theorem Lk.set {B b c c' : Nat} {w v v' : World} (h : Lk B b c w v) (hB : B ≤ b) (h1 : v'.heap[b]? = some (.cells #[.int .i64 c'] 50 (0, 0))) (h2 : KeepBut v v' b none) (h3 : ∀ B, B ≤ b → Below B v v') : Lk B b c' w v' :=
  ⟨h1, h.2.1.trans (h3 B hB), h.2.2.trans h2 (.inl rfl)⟩

/-- What a method of the looker does with a node n: F. -/
def LookC (f : FuncId) (F : Nat → Bool → Bool → Bool → Nat → Bool × Nat) (n : S25) : Prop := ∀ (w0 w : World) (b : Nat) (A1 : Option Addr) (c1 : Nat) (A3 : Option Addr) (c3 : Nat) (d : Nat) (box line li : Bool) (c : Nat),
  Kd.C k47 w0 A1 n.f1.length n.f1 → n.f1.length ≤ c1 → Kd.C k25 w0 A3 n.f3.length n.f3 → n.f3.length ≤ c3 → Below w0.heap.size w0 w → Tabs w0 → tsz n ≤ 70368744177664 → w0.heap.size ≤ b → w.heap[b]? = some (.cells #[.int .i64 c] 50 (0, 0)) → c ≤ 2000 → d ≤ 41 →
  Calls Tryd.prog f #[.pointer (some ⟨b, 0, none⟩), lookNodeV n A1 c1 A3 c3, aroundV d box line li] w fun e w' => e = .returned (.bool (F d box line li c).1) ∧ Lk w0.heap.size b (F d box line li c).2 w w'
def prevText (l : List S25) : Nat → Bool
  | 0 => false
  | i + 1 => match l[i]? with
    | some k => k.f0 == 0
    | none => false

theorem prevText_at (l : List S25) (i : Nat) (h : i ≤ l.length) (h0 : 0 < i) : prevText l i = ((rd_T25 l ((i : Int) - 1)).f0 == 0) := by
  obtain ⟨j, rfl⟩ : ∃ j, i = j + 1 := ⟨i - 1, by omega⟩
  have hj : j < l.length := by omega
  have e : (((j + 1 : Nat) : Int) - 1).toNat = j := by omega
  simp [prevText, rd_T25, e, List.getD_eq_getElem?_getD, List.getElem?_eq_getElem hj]

set_option maxHeartbeats 8000000 in
set_option maxRecDepth 100000 in
theorem kids_calls (n : S25) (hk : ∀ k, k ∈ n.f3 → LookC 33 (lookN k) k) : LookC 23 (lookK n.f3 false) n := by
  intro w0 w b A1 c1 A3 c3 d box line li c h1 l1 h3 l3 hB hT hsz hb hblk hc hd
  unfold lookNodeV aroundV
  obtain ⟨R, hR⟩ : ∃ R, R = lookK n.f3 false d box line li c := ⟨_, rfl⟩
  rw [← hR]
  have HR := Aside0.mk hR.symm
  have HK := Aside0.mk hk
  have H1 := Aside0.mk h1
  have H3 := Aside0.mk h3
  have HB := Aside0.mk hB
  have HT := Aside0.mk hT
  have HSZ := Aside0.mk hsz
  have HBb := Aside0.mk hb
  have HBL := Aside0.mk hblk
  have HC := Aside0.mk hc
  have HD := Aside0.mk hd
  have L1 := Aside0.mk l1
  have L3 := Aside0.mk l3
  have HBS := Aside0.mk hB.size
  have H2 := H3.out.2.1
  clear hR hk h1 h3 hB hT hsz hb hblk hc hd l1 l3
  go_enter Tryd.func23, Tryd.ntmps23
  go_wp2
  go_loopw [12] (fun v12 wr => ∃ (i cur : Nat), v12 = .int .i64 i ∧ i ≤ n.f3.length ∧ cur ≤ 2000 ∧ Aside0 (lookK (n.f3.drop i) (prevText n.f3 i) d box line li cur = R) ∧ Aside0 (Lk w0.heap.size b cur w wr) ∧ Aside0 (wr.heap[w.heap.size]? = some (.cells #[.int .i64 n.f0, .slice A1 n.f1.length c1, .string n.f2, .slice A3 n.f3.length c3] 25 (0, 0))) ∧ Aside0 (wr.heap[w.heap.size + 1]? = some (.cells #[.int .i64 d, .bool box, .bool line, .bool li] 53 (0, 0)))) (fun v12 _ => n.f3.length - (intOf v12).toNat)
  case atStart =>
    refine ⟨0, c, rfl, Nat.zero_le _, HC.out, ⟨HR.out⟩, ⟨?_⟩, ⟨blk2_0 _ _ _⟩, ⟨blk2_1 _ _ _⟩⟩
    exact (Lk.start HBL.out).below HBS.out (bel2 _ _ _)
  case round =>
    obtain ⟨i, cur, rfl, hi, hcur, hR, hL, hn1, hn2⟩ := hrel
    by_cases hlt : i < n.f3.length
    · have q1 : (0 : Int) ≤ (i : Int) := by omega
      have q2 : (i : Int) < (n.f3.length : Int) := by omega
      have HBr := Aside0.mk (HB.out.trans hL.out.2.1)
      obtain ⟨ad, B1, d1, B3, d3, eA, hx0, hx1, hx2, hx3, m1, g1, m3, g3⟩ := at_T25 H3.out (i : Int) q1 q2
      have hrd : rd_T25 n.f3 (i : Int) = n.f3[i] := by simp [rd_T25, List.getD_eq_getElem?_getD, List.getElem?_eq_getElem hlt]
      rw [hrd] at hx0 hx1 hx2 hx3 m1 g1 m3 g3
      have HKi := Aside0.mk (HK.out _ (List.getElem_mem hlt))
      have SK := Aside0.mk (show tsz n.f3[i] ≤ 70368744177664 by have h1 := tsz_mem (List.getElem_mem hlt); have h2 := HSZ.out; unfold tsz at h2; omega)
      have hdr : n.f3.drop i = n.f3[i] :: n.f3.drop (i + 1) := List.drop_eq_getElem_cons hlt
      have hpt : prevText n.f3 (i + 1) = (n.f3[i].f0 == 0) := by simp [prevText, List.getElem?_eq_getElem hlt]
      have HF := Aside0.mk (show (if (prevText n.f3 i && n.f3[i].f0 == 0) = true then (false, cur) else if (lookN n.f3[i] d box line li cur).1 = true then lookK (n.f3.drop (i + 1)) (prevText n.f3 (i + 1)) d box line li (lookN n.f3[i] d box line li cur).2 else (false, (lookN n.f3[i] d box line li cur).2)) = R by have := hR.out; rw [hdr] at this; unfold lookK at this; rw [hpt]; exact this)
      have HLE := Aside0.mk (lookN_le n.f3[i] d box line li cur hcur)
      have HP := Aside0.mk (prevText_at n.f3 i (by omega))
      generalize n.f3[i] = k at *
      clear hrd hdr hR hpt
      simp only [Int.toNat_natCast] at hx0 hx1 hx2 hx3
      subst eA
      replace hx0 := (HBr.out.cell (World.block_lt_of_cell? w0 _ hx0)).trans hx0
      replace hx1 := (HBr.out.cell (World.block_lt_of_cell? w0 _ hx1)).trans hx1
      replace hx2 := (HBr.out.cell (World.block_lt_of_cell? w0 _ hx2)).trans hx2
      replace hx3 := (HBr.out.cell (World.block_lt_of_cell? w0 _ hx3)).trans hx3
      have M1 := Aside0.mk m1
      have G1 := Aside0.mk g1
      have M3 := Aside0.mk m3
      have G3 := Aside0.mk g3
      have HCU := Aside0.mk hcur
      clear m1 g1 m3 g3
      have hb := (Below.refl wr.heap.size wr).alloc (Nat.le_refl _) (.cells #[.int .i64 k.f0, .slice B1 k.f1.length d1, .string k.f2, .slice B3 k.f3.length d3] 25)
      have P1 := Aside0.mk (HBr.out.trans (hb.mono HBr.out.size))
      have P2 := Aside0.mk (blk_below hL.out.1 hb)
      have HN1 := Aside0.mk (blk_below hn1.out hb)
      have HN2 := Aside0.mk (blk_below hn2.out hb)
      have HG1 := Aside0.mk (show w.heap.size ≠ b by have := blk_lt HBL.out; omega)
      have HG2 := Aside0.mk (show w.heap.size + 1 ≠ b by have := blk_lt HBL.out; omega)
      have HL1 := Aside0.mk (hL.out.below HBr.out.size hb)
      have z0 : (wr.alloc (.cells #[.int .i64 k.f0, .slice B1 k.f1.length d1, .string k.f2, .slice B3 k.f3.length d3] 25)).cell? ⟨w.heap.size, 3, none⟩ = some (.slice (some ad) n.f3.length c3) := blk_cell HN1.out 3
      have z1 : (wr.alloc (.cells #[.int .i64 k.f0, .slice B1 k.f1.length d1, .string k.f2, .slice B3 k.f3.length d3] 25)).cell? ⟨w.heap.size + 1, 0, none⟩ = some (.int .i64 d) := blk_cell HN2.out 0
      have z2 : (wr.alloc (.cells #[.int .i64 k.f0, .slice B1 k.f1.length d1, .string k.f2, .slice B3 k.f3.length d3] 25)).cell? ⟨w.heap.size + 1, 1, none⟩ = some (.bool box) := blk_cell HN2.out 1
      have z3 : (wr.alloc (.cells #[.int .i64 k.f0, .slice B1 k.f1.length d1, .string k.f2, .slice B3 k.f3.length d3] 25)).cell? ⟨w.heap.size + 1, 2, none⟩ = some (.bool line) := blk_cell HN2.out 2
      have z4 : (wr.alloc (.cells #[.int .i64 k.f0, .slice B1 k.f1.length d1, .string k.f2, .slice B3 k.f3.length d3] 25)).cell? ⟨w.heap.size + 1, 3, none⟩ = some (.bool li) := blk_cell HN2.out 3
      clear hb hL hn1 hn2 hcur
      rcases Nat.eq_zero_or_pos i with h0 | h0
      · have HPK := Aside0.mk (show (prevText n.f3 i && k.f0 == 0) = false by rw [h0]; rfl)
        have b0 : ¬ (0 : Int) < (i : Int) := by omega
        have b1 : decide ((i : Int) > 0) = false := by simp; omega
        clear h0
        go_wp2_with (go_at_call 33; refine (HKi.out w0 _ b B1 d1 B3 d3 d box line li cur G1.out M1.out G3.out M3.out P1.out HT.out SK.out HBb.out P2.out HCU.out HD.out).mono ?_)
        generalize lookN k d box line li cur = r1 at *
        obtain ⟨r, c2⟩ := r1
        first | (rintro e W2 ⟨rfl, h1⟩; have HW := Aside0.mk h1; clear h1) | (rintro e W2 rfl h1; have HW := Aside0.mk h1; clear h1)
        simp only at HW
        cases r
        · have hr := HF.out
          simp only [HPK.out, Bool.false_eq_true, if_false] at hr
          subst hr
          clear HF
          go_wp2
          go_ret
          exact ⟨rfl, HL1.out.trans HW.out⟩
        · have hr := HF.out
          simp only [HPK.out, Bool.false_eq_true, if_false, if_true] at hr
          have HR2 := Aside0.mk hr
          have HC2 := Aside0.mk (HLE.out.2 rfl)
          clear hr HF
          go_wp2
          go_roundw
          case rel => exact ⟨i + 1, c2, by go_num, by omega, HC2.out, ⟨HR2.out⟩, ⟨HL1.out.trans HW.out⟩, ⟨HW.out.blk HN1.out HG1.out⟩, ⟨HW.out.blk HN2.out HG2.out⟩⟩
          case measure => simp [intOf]; omega
      · have HPV := Aside0.mk (HP.out h0)
        have q3 : (0 : Int) ≤ (i : Int) - 1 := by omega
        have q4 : (i : Int) - 1 < (n.f3.length : Int) := by omega
        obtain ⟨ad2, E1, e1, E3, e3, eA2, hy0, _⟩ := at_T25 H3.out ((i : Int) - 1) q3 q4
        obtain rfl := Option.some.inj eA2
        clear eA2
        generalize rd_T25 n.f3 ((i : Int) - 1) = k2 at *
        rw [show ((i : Int) - 1).toNat = i - 1 by omega] at hy0
        replace hy0 := (P1.out.cell (World.block_lt_of_cell? w0 _ hy0)).trans hy0
        have b0 : (0 : Int) < (i : Int) := by omega
        have b1 : decide ((i : Int) > 0) = true := by simp; omega
        cases hkt : (k.f0 == 0)
        · have HPK := Aside0.mk (show (prevText n.f3 i && k.f0 == 0) = false by rw [hkt, Bool.and_false])
          rw [hkt] at HF
          go_wp2_with (go_at_call 33; refine (HKi.out w0 _ b B1 d1 B3 d3 d box line li cur G1.out M1.out G3.out M3.out P1.out HT.out SK.out HBb.out P2.out HCU.out HD.out).mono ?_)
          generalize lookN k d box line li cur = r1 at *
          obtain ⟨r, c2⟩ := r1
          first | (rintro e W2 ⟨rfl, h1⟩; have HW := Aside0.mk h1; clear h1) | (rintro e W2 rfl h1; have HW := Aside0.mk h1; clear h1)
          simp only at HW
          cases r
          · have hr := HF.out
            simp only [Bool.and_false, Bool.false_eq_true, if_false] at hr
            subst hr
            clear HF
            go_wp2
            go_ret
            exact ⟨rfl, HL1.out.trans HW.out⟩
          · have hr := HF.out
            simp only [Bool.and_false, Bool.false_eq_true, if_false, if_true] at hr
            have HR2 := Aside0.mk hr
            have HC2 := Aside0.mk (HLE.out.2 rfl)
            clear hr HF
            go_wp2
            go_roundw
            case rel => exact ⟨i + 1, c2, by go_num, by omega, HC2.out, ⟨HR2.out⟩, ⟨HL1.out.trans HW.out⟩, ⟨HW.out.blk HN1.out HG1.out⟩, ⟨HW.out.blk HN2.out HG2.out⟩⟩
            case measure => simp [intOf]; omega
        · cases hpt : (k2.f0 == 0)
          · have HPK := Aside0.mk (show (prevText n.f3 i && k.f0 == 0) = false by rw [HPV.out, hpt, Bool.false_and])
            go_wp2_with (go_at_call 33; refine (HKi.out w0 _ b B1 d1 B3 d3 d box line li cur G1.out M1.out G3.out M3.out P1.out HT.out SK.out HBb.out P2.out HCU.out HD.out).mono ?_)
            generalize lookN k d box line li cur = r1 at *
            obtain ⟨r, c2⟩ := r1
            first | (rintro e W2 ⟨rfl, h1⟩; have HW := Aside0.mk h1; clear h1) | (rintro e W2 rfl h1; have HW := Aside0.mk h1; clear h1)
            simp only at HW
            cases r
            · have hr := HF.out
              simp only [HPK.out, Bool.false_eq_true, if_false] at hr
              subst hr
              clear HF
              go_wp2
              go_ret
              exact ⟨rfl, HL1.out.trans HW.out⟩
            · have hr := HF.out
              simp only [HPK.out, Bool.false_eq_true, if_false, if_true] at hr
              have HR2 := Aside0.mk hr
              have HC2 := Aside0.mk (HLE.out.2 rfl)
              clear hr HF
              go_wp2
              go_roundw
              case rel => exact ⟨i + 1, c2, by go_num, by omega, HC2.out, ⟨HR2.out⟩, ⟨HL1.out.trans HW.out⟩, ⟨HW.out.blk HN1.out HG1.out⟩, ⟨HW.out.blk HN2.out HG2.out⟩⟩
              case measure => simp [intOf]; omega
          · have hr := HF.out
            rw [HPV.out, hpt, hkt] at hr
            simp only [Bool.and_self, if_true] at hr
            subst hr
            clear HF
            go_wp2
            go_ret
            exact ⟨rfl, HL1.out⟩
    · obtain rfl : i = n.f3.length := by omega
      have hr := hR.out
      rw [List.drop_length] at hr
      unfold lookK at hr
      subst hr
      go_wp2
      go_ret
      exact ⟨rfl, hL.out⟩
end Go.Proofs.YtbbikcmkcgoamaaDoor.Pp

/-
  How long the markup of a tree can be: at most 25 bytes for each of its nodes, attributes and bytes.
-/
namespace Go.Proofs.YtbbikcmkcgoamaaDoor.Pp
open Go.RowKit Go.Proofs.YtbbikcmkcgoamaaDoorW.PrintWords Go.Proofs.YtbbikcmkcgoamaaDoorW.PrintLast Go.Proofs.YtbbikcmkcgoamaaDoorW.PrintMore
set_option linter.unusedVariables false
set_option linter.unusedSimpArgs false

theorem attrsP_len (l : List S47) : (attrsP l).length ≤ 6 * (l.map fun a => 1 + a.f0.size + a.f1.size).sum := by
  induction l with
  | nil => simp [attrsP]
  | cons a l ih =>
    have := charsP_le a.f1 true
    simp only [attrsP, List.length_append, List.length_cons, List.length_nil, List.map_cons, List.sum_cons, bl_len]
    omega
mutual
theorem nodeP_len : ∀ n : S25, (nodeP n).length ≤ 25 * nsz n
  | ⟨t, l, tx, ks⟩ => by
    have h1 := kidsP_len ks
    have h2 := charsP_le tx false
    have h3 := attrsP_len l
    have h4 := tname_size t
    unfold nodeP nsz
    split
    · omega
    · split
      · omega
      · simp only [List.length_append, List.length_cons, List.length_nil, bl_len]
        split
        · simp only [List.length_nil]; omega
        · simp only [List.length_append, List.length_cons, List.length_nil, bl_len]; omega
theorem kidsP_len : ∀ l : List S25, (kidsP l).length ≤ 25 * nszK l
  | [] => by simp [kidsP]
  | k :: ks => by
    have h1 := nodeP_len k
    have h2 := kidsP_len ks
    simp only [kidsP, List.length_append, nszK]
    omega
end
theorem kidsP_len_n (n : S25) : (kidsP n.f3).length ≤ 25 * nsz n := by
  have h1 := kidsP_len n.f3
  have h2 := nsz_eq n
  omega
theorem tsz_le : ∀ (N : Nat) (n : S25), nsz n ≤ N → tsz n ≤ nsz n := by
  intro N
  induction N with
  | zero => intro n h; have := nsz_pos n; omega
  | succ N ih =>
    intro n h
    have h2 := nsz_eq n
    have key : ∀ l : List S25, (∀ k, k ∈ l → tsz k ≤ nsz k) → tszK l ≤ nszK l := by
      intro l
      induction l with
      | nil => intro _; simp [tszK]
      | cons k l ihl =>
        intro hk
        rw [tszK_cons]
        have h3 := hk k (List.mem_cons_self ..)
        have h4 := ihl (fun x hx => hk x (List.mem_cons_of_mem _ hx))
        simp only [nszK]
        omega
    have h5 := key n.f3 (fun k hk => ih k (by have := nszK_mem hk; omega))
    unfold tsz
    omega
end Go.Proofs.YtbbikcmkcgoamaaDoor.Pp

/-
  A tree that comes in as an argument: what reads as data is a row of nodes, and its size is at most the bulk of what is read.
-/
namespace Go.Proofs.YtbbikcmkcgoamaaDoor.Pp
open Go.RowKit Go.Proofs.YtbbikcmkcgoamaaDoorW.PrintWords Go.Proofs.YtbbikcmkcgoamaaDoorW.PrintLast Go.Proofs.YtbbikcmkcgoamaaDoorW.PrintMore
open Go.ChangeShapes Go.WideShapes Go.Deep
set_option linter.unusedVariables false
set_option linter.unusedSimpArgs false

theorem bulk_append {H : Type} (l r : List (DataW H)) : Rows.uptoBulkAll (l ++ r) = Rows.uptoBulkAll l + Rows.uptoBulkAll r := by
  induction l with
  | nil => simp [Rows.uptoBulkAll]
  | cons x l ih => simp only [List.cons_append, Rows.uptoBulkAll, ih]; omega

/-- A row's elements, one by one. -/
theorem rows_of {α H : Type} (d : Kd α) (w : World) (a : Addr) (D : Nat → DataW H) (m : α → Nat) : ∀ len : Nat,
    (∀ i, i < len → ∃ (p : α) (c : List Value), d.K w p c ∧ m p ≤ Rows.uptoBulk (D i) ∧ ∀ j u, c[j]? = some u → w.cell? (a.add (i * d.sz + j)) = some u) →
    ∃ l : List α, l.length = len ∧ (∀ j p, l[j]? = some p → ∃ c, c.length = d.sz ∧ d.K w p c ∧ ∀ i u, c[i]? = some u → w.cell? (a.add (j * d.sz + i)) = some u) ∧ (l.map m).sum ≤ Rows.uptoBulkAll ((List.range len).map D)
  | 0, _ => ⟨[], rfl, fun j p h => by simp at h, by simp⟩
  | len + 1, h => by
    obtain ⟨l, h1, h2, h3⟩ := rows_of d w a D m len (fun i hi => h i (by omega))
    obtain ⟨p, c, h4, h5, h6⟩ := h len (by omega)
    refine ⟨l ++ [p], by simp [h1], fun j q hq => ?_, ?_⟩
    · rcases Nat.lt_or_ge j l.length with hj | hj
      · rw [List.getElem?_append_left hj] at hq
        exact h2 j q hq
      · have hj2 : j = l.length := by
          have := (List.getElem?_eq_some_iff.1 hq).1
          simp at this
          omega
        subst hj2
        simp only [List.getElem?_concat_length, Option.some.injEq] at hq
        subst hq
        exact ⟨c, d.K_len h4, h4, fun i u hu => by rw [h1]; exact h6 i u hu⟩
    · have hr : (List.range (len + 1)).map D = (List.range len).map D ++ [D len] := by rw [List.range_succ, List.map_append]; rfl
      rw [hr, bulk_append]
      simp only [List.map_append, List.map_cons, List.map_nil, List.sum_append, List.sum_cons, List.sum_nil, Rows.uptoBulkAll]
      omega

section
variable {H : Type} {enc : TypeId × Value → H} {w : World} {base : Nat} {spare : Nat → Bool} {held : Bool}
/-- A slice's row. -/
theorem open_row {α : Type} (d : Kd α) (m : α → Nat) {t e : TypeId} (ht : Tryd.prog.underlying t = some (.slice e)) (hC : Tryd.prog.cellsOf e = d.sz) {fuel : Nat} {cs : List Value} {x : DataW H × List MemPlace} (h : DataW.trod enc Tryd.prog w base spare held fuel t cs = some x)
    (hel : ∀ (n : Nat) (cs' : List Value) (y : DataW H × List MemPlace), Rows.uptoBulk y.1 < Rows.uptoBulk x.1 → DataW.trod enc Tryd.prog w base spare held n e cs' = some y → ∃ p : α, d.K w p cs' ∧ m p ≤ Rows.uptoBulk y.1) :
    ∃ (A : Option Addr) (c : Nat) (l : List α), cs = [.slice A l.length c] ∧ l.length ≤ c ∧ Kd.C d w A l.length l ∧ (l.map m).sum + 1 ≤ Rows.uptoBulk x.1 := by
  rcases open_slice ht h with ⟨rfl, rfl⟩ | ⟨a, len, cap, mm, n, D, Pl, rfl, hb, hl, hm, hmm, rfl, hi⟩
  · exact ⟨none, 0, [], rfl, Nat.le_refl _, ⟨rfl, by simp, fun h => by simp at h⟩, by simp [Rows.uptoBulk]⟩
  · have hlm : len ≤ mm := by rw [hmm]; split <;> omega
    have hlt : ∀ i, i < len → Rows.uptoBulk (D i) < Rows.uptoBulk (DataW.slice ((List.range len).map D) ((List.range (mm - len)).map fun j => D (len + j))) := by
      intro i hi2
      have h1 : Rows.uptoBulk (D i) ≤ Rows.uptoBulkAll ((List.range len).map D) := by
        have : D i ∈ (List.range len).map D := List.mem_map.2 ⟨i, List.mem_range.2 hi2, rfl⟩
        generalize (List.range len).map D = L at this
        induction L with
        | nil => cases this
        | cons y r ih =>
          simp only [Rows.uptoBulkAll]
          rcases List.mem_cons.1 this with e | e
          · subst e; omega
          · have := ih e; omega
      simp only [Rows.uptoBulk]
      omega
    obtain ⟨l, h1, h2, h3⟩ := rows_of d w a D m len (fun i hi2 => by
      obtain ⟨cs', hc, ht'⟩ := hi i (by omega)
      obtain ⟨p, hp, hmp⟩ := hel n cs' (D i, Pl i) (hlt i hi2) ht'
      rw [hC] at hc
      obtain ⟨_, hcl, hat⟩ := World.cells?_some hc
      refine ⟨p, cs', hp, hmp, fun j u hu => ?_⟩
      have hj : j < d.sz := by rw [← hcl]; exact (List.getElem?_eq_some_iff.1 hu).1
      rw [← Deep.add_add, hat j hj, hu])
    subst h1
    refine ⟨some a, cap, l, rfl, hl, ⟨rfl, by unfold maxLen at hm; omega, fun _ => ⟨a, rfl, h2⟩⟩, ?_⟩
    simp only [Rows.uptoBulk]
    omega

set_option maxRecDepth 100000 in
theorem open_attr {fuel : Nat} {cs : List Value} {x : DataW H × List MemPlace} (h : DataW.trod enc Tryd.prog w base spare held fuel 47 cs = some x) : ∃ p : S47, k47.K w p cs ∧ 1 + p.f0.size + p.f1.size ≤ Rows.uptoBulk x.1 := by
  obtain ⟨xs, n, _, rfl, hcl, hlen, hf⟩ := DataW.trod_struct Tryd.underlying47 h
  have h2 : cs.length = 2 := hcl.trans (by kernel_rfl)
  match cs, h2 with
  | [c0, c1], _ =>
    match xs, hlen with
    | [y0, y1], _ =>
      have f0 := hf 0 _ rfl
      have f1 := hf 1 _ rfl
      have q0 : DataW.trod enc Tryd.prog w base spare held n 9 [c0] = some y0 := f0
      have q1 : DataW.trod enc Tryd.prog w base spare held n 9 [c1] = some y1 := f1
      obtain ⟨s0, e0, rfl, _⟩ := DataW.trod_string Tryd.underlying9 q0
      obtain ⟨s1, e1, rfl, _⟩ := DataW.trod_string Tryd.underlying9 q1
      cases e0
      cases e1
      refine ⟨⟨s0, s1⟩, k47_mk w ⟨s0, s1⟩, ?_⟩
      have z : ∀ s : ByteArray, s.data.toList.length = s.size := fun s => by rw [Array.length_toList]; rfl
      simp only [List.map_cons, List.map_nil, Rows.uptoBulk, Rows.uptoBulkAll, z]
      omega
theorem sum_eq (l : List S25) : (l.map nsz).sum = nszK l := by
  induction l with
  | nil => simp [nszK]
  | cons k l ih => simp only [List.map_cons, List.sum_cons, nszK, ih]
set_option maxRecDepth 100000 in
theorem open_node : ∀ (N : Nat) {fuel : Nat} {cs : List Value} {x : DataW H × List MemPlace}, Rows.uptoBulk x.1 ≤ N → DataW.trod enc Tryd.prog w base spare held fuel 25 cs = some x → ∃ p : S25, k25.K w p cs ∧ nsz p ≤ Rows.uptoBulk x.1 := by
  intro N
  induction N with
  | zero =>
    intro fuel cs x hN h
    obtain ⟨xs, n, _, rfl, _⟩ := DataW.trod_struct Tryd.underlying25 h
    simp only [Rows.uptoBulk] at hN
    omega
  | succ N ih =>
    intro fuel cs x hN h
    obtain ⟨xs, n, _, rfl, hcl, hlen, hf⟩ := DataW.trod_struct Tryd.underlying25 h
    have h2 : cs.length = 4 := hcl.trans (by kernel_rfl)
    match cs, h2 with
    | [c0, c1, c2, c3], _ =>
      match xs, hlen with
      | [y0, y1, y2, y3], _ =>
        have f0 := hf 0 _ rfl
        have f1 := hf 1 _ rfl
        have f2 := hf 2 _ rfl
        have f3 := hf 3 _ rfl
        have q0 : DataW.trod enc Tryd.prog w base spare held n 3 [c0] = some y0 := f0
        have q1 : DataW.trod enc Tryd.prog w base spare held n 22 [c1] = some y1 := f1
        have q2 : DataW.trod enc Tryd.prog w base spare held n 9 [c2] = some y2 := f2
        have q3 : DataW.trod enc Tryd.prog w base spare held n 23 [c3] = some y3 := f3
        obtain ⟨t, e0, rfl, _⟩ := DataW.trod_int Tryd.underlying3 q0
        obtain ⟨tx, e2, rfl, _⟩ := DataW.trod_string Tryd.underlying9 q2
        obtain ⟨A1, d1, l1, e1, g1, r1, s1⟩ := open_row k47 (fun a => 1 + a.f0.size + a.f1.size) Tryd.underlying22 (by kernel_rfl) q1 (fun m cs' y _ hy => open_attr hy)
        obtain ⟨A3, d3, l3, e3, g3, r3, s3⟩ := open_row k25 nsz Tryd.underlying23 (by kernel_rfl) q3 (fun m cs' y hlt hy => ih (by simp only [List.map_cons, List.map_nil, Rows.uptoBulk, Rows.uptoBulkAll] at hN; omega) hy)
        cases e0
        cases e1
        cases e2
        cases e3
        refine ⟨⟨t, l1, tx, l3⟩, k25_mk w ⟨t, l1, tx, l3⟩ g1 r1 g3 r3, ?_⟩
        have z : ∀ s : ByteArray, s.data.toList.length = s.size := fun s => by rw [Array.length_toList]; rfl
        rw [sum_eq] at s3
        simp only [List.map_cons, List.map_nil, Rows.uptoBulk, Rows.uptoBulkAll, z, nsz]
        omega
end
end Go.Proofs.YtbbikcmkcgoamaaDoor.Pp

/-
  What the rows of this seat share: the tables of unicode/utf8 as the row lists them, a world that holds them, and an argument that is a tree.
-/
namespace Go.Proofs.YtbbikcmkcgoamaaDoor.Pp
open Go.Shelf
open Go.RowKit Go.Proofs.YtbbikcmkcgoamaaDoorW.PrintWords Go.Proofs.YtbbikcmkcgoamaaDoorW.PrintLast Go.Proofs.YtbbikcmkcgoamaaDoorW.PrintMore
open Go.ChangeShapes Go.WideShapes Go.ChangeAt Go.Lib
set_option linter.unusedVariables false
set_option linter.unusedSimpArgs false

theorem own : ownKnob Tryd.prog.godebug = none := by kernel_rfl
theorem laidOut : laidOutB Tryd.prog = true := by kernel_rfl

/-- The settled world, the two tables holding what their initialisers lay. -/
noncomputable def laidWorld (os : Os) : World :=
  let w0 := World.holding Tryd.prog os ⟨#[], #[], []⟩
  let put (h : Array Obj) (g : Nat) (cs : Array Value) : Array Obj := h.modify g fun
    | .cells _ t frozen => .cells cs t frozen
    | o => o
  let h1 := put w0.heap 0 (Lib.firstTab.map fun z => Value.int .u8 z).toArray
  let h2 := put h1 1 ((List.range 16).flatMap fun i => [Value.int .u8 (Lib.accLo i), Value.int .u8 (Lib.accHi i)]).toArray
  { w0 with heap := h2 }
theorem laid_list : [("unicode/utf8.acceptRanges", (Rows.laid_unicode_utf8_acceptRanges : DataW Unit)), ("unicode/utf8.first", Rows.laid_unicode_utf8_first)] = [("unicode/utf8.acceptRanges", Lib.acceptData), ("unicode/utf8.first", Lib.firstData)] := by kernel_rfl
theorem laid_met (os : Os) (args : Array Value) : laidMet Tryd.prog [("unicode/utf8.acceptRanges", (Rows.laid_unicode_utf8_acceptRanges : DataW Unit)), ("unicode/utf8.first", Rows.laid_unicode_utf8_first)] ((laidWorld os).forCall (fun _ _ => 0) ⟨#[], args, []⟩).memory := by
  rw [laid_list]
  exact (LaidIn.of_run (l := [("unicode/utf8.acceptRanges", Lib.acceptData), ("unicode/utf8.first", Lib.firstData)]) [1, 0] 8 (by kernel_rfl) (by kernel_rfl) (by kernel_rfl) (by kernel_rfl)).met

theorem tabs_of {W : World} (h : laidMetH Tryd.prog [("unicode/utf8.acceptRanges", (Rows.laid_unicode_utf8_acceptRanges : DataW Unit)), ("unicode/utf8.first", Rows.laid_unicode_utf8_first)] W) : Tabs W := by
  rw [laid_list] at h
  exact utf8Tabs_of_readsT (U8Types.of196 Tryd.lays196) ⟨by kernel_rfl, by kernel_rfl, by kernel_rfl, by kernel_rfl, by kernel_rfl, by kernel_rfl, by kernel_rfl⟩ (Lib.laidMet.reads h (.tail _ (.head _))) (Lib.laidMet.reads h (.head _))

set_option maxRecDepth 100000 in
/-- A tree as an argument. -/
theorem open_tree {H : Type} {enc : TypeId × Value → H} {W : World} {base : Nat} {v : Value} {d : DataW H} {p : List MemPlace} (hv : Value.okWide Tryd.prog W .any base 25 v) (h : DataW.Trod enc Tryd.prog W 0 (fun _ => true) true 25 v d p) :
    ∃ (n : S25) (A1 : Option Addr) (c1 : Nat) (A3 : Option Addr) (c3 : Nat), v = .agg #[.int .i64 n.f0, .slice A1 n.f1.length c1, .string n.f2, .slice A3 n.f3.length c3] ∧ Kd.C k47 W A1 n.f1.length n.f1 ∧ n.f1.length ≤ c1 ∧ Kd.C k25 W A3 n.f3.length n.f3 ∧ n.f3.length ≤ c3 ∧ nsz n ≤ Rows.uptoBulk d := by
  obtain ⟨cs, rfl, hsz⟩ := okWide_struct Tryd.underlying25 hv
  obtain ⟨fuel, hf⟩ := h
  obtain ⟨n, hk, hb⟩ := open_node _ (Nat.le_refl _) hf
  obtain ⟨A1, c1, A3, c3, e, l1, g1, l3, g3⟩ := k25_open hk
  refine ⟨n, A1, c1, A3, c3, ?_, g1, l1, g3, l3, hb⟩
  congr 1
  exact Array.toList_inj.1 e
theorem trod_blocks {H : Type} {enc : TypeId × Value → H} {W : World} {t : TypeId} {v : Value} {d : DataW H} {p : List MemPlace} (h : DataW.Trod enc Tryd.prog W 0 (fun _ => true) true t v d p) : ∀ x ∈ p, x.block < W.heap.size := by
  obtain ⟨m, hm⟩ := h
  exact DataW.trod_lt m _ _ _ hm
end Go.Proofs.YtbbikcmkcgoamaaDoor.Pp

/-
  (*looker).node: the walk; and both methods for every tree.
-/
namespace Go.Proofs.YtbbikcmkcgoamaaDoor.Pp
open Go.RowKit Go.Proofs.YtbbikcmkcgoamaaDoorW.PrintWords Go.Proofs.YtbbikcmkcgoamaaDoorW.PrintLast Go.Proofs.YtbbikcmkcgoamaaDoorW.PrintMore Go.Proofs.YtbbikcmkcgoamaaDoor.My
set_option linter.unusedVariables false
set_option linter.unusedSimpArgs false

theorem Lk.setg {B b c g : Nat} {w v v' : World} (h : Lk B b c w v) (hB : B ≤ w.heap.size) (hg : w.heap.size ≤ g) (hne : g ≠ b) (h2 : KeepBut v v' g none) (h3 : ∀ B, B ≤ g → Below B v v') : Lk B b c w v' :=
  ⟨h2.blk h.1 (fun e => hne e.symm) (by simp), h.2.1.trans (h3 B (Nat.le_trans hB hg)), ⟨Nat.le_trans h.2.2.1 h2.1, fun i hi hib hn => (h2.2 i (Nat.lt_of_lt_of_le hi h.2.2.1) (by omega) (by simp)).trans (h.2.2.2 i hi hib hn)⟩⟩
theorem below_set1 (v : World) (g i : Nat) (u : Value) {B : Nat} (hB : B ≤ g) : Below B v (v.setCell ⟨g, i, none⟩ u) := by
  obtain ⟨s1, s2, s3, s4⟩ := setCells_same g [u] i v
  have hw : v.setCells g i [u] = v.setCell ⟨g, i, none⟩ u := rfl
  rw [hw] at s1 s2 s3 s4
  refine ⟨s1, s2, s3, by rw [s4]; exact Nat.le_refl _, fun k hk => ?_⟩
  have e : k ≠ g := by omega
  exact setCells_far [u] i k e
theorem lookN_eq (n : S25) (d : Nat) (box line li : Bool) (c : Nat) : lookN n d box line li c = (
    if 2000 < c + 1 ∨ 40 < d then (false, c + 1)
    else if tclass n.f0 = 0 then (false, c + 1)
    else if tclass n.f0 = 1 then (textOk n box, c + 1)
    else if tclass n.f0 = 5 then (n.f2.toList.isEmpty && (mayOk n.f1 && decide (n.f3.length = 0)), c + 1)
    else if (tclass n.f0 = 3 ∨ tclass n.f0 = 2) ∧ (line || (n.f0 == 9 && li)) = true then (false, c + 1)
    else if (n.f2.toList.isEmpty && mayOk n.f1) = true then lookK n.f3 false (d + 1) (tclass n.f0 == 2) (inLine n.f0 line) (inLi n.f0 li) (c + 1) else (false, c + 1)) := by
  cases n with
  | mk a b e f => simp only [lookN]
theorem tclass_of {t : Int} (h : 0 < tclass t) : t = 0 ∨ t = 1 ∨ t = 2 ∨ t = 3 ∨ t = 4 ∨ t = 5 ∨ t = 6 ∨ t = 7 ∨ t = 8 ∨ t = 9 ∨ t = 10 ∨ t = 11 ∨ t = 12 ∨ t = 13 ∨ t = 14 ∨ t = 15 ∨ t = 16 := by
  unfold tclass at h
  split at h
  · omega
  · omega
theorem tclass_le (t : Int) : 0 ≤ tclass t ∧ tclass t ≤ 5 := by
  by_cases h : 0 < tclass t
  · rcases tclass_of h with rfl | rfl | rfl | rfl | rfl | rfl | rfl | rfl | rfl | rfl | rfl | rfl | rfl | rfl | rfl | rfl | rfl <;> decide
  · constructor
    · by_cases h2 : 0 ≤ t ∧ t ≤ 16
      · have ht : t = 0 ∨ t = 1 ∨ t = 2 ∨ t = 3 ∨ t = 4 ∨ t = 5 ∨ t = 6 ∨ t = 7 ∨ t = 8 ∨ t = 9 ∨ t = 10 ∨ t = 11 ∨ t = 12 ∨ t = 13 ∨ t = 14 ∨ t = 15 ∨ t = 16 := by omega
        rcases ht with rfl | rfl | rfl | rfl | rfl | rfl | rfl | rfl | rfl | rfl | rfl | rfl | rfl | rfl | rfl | rfl | rfl <;> decide
      · unfold tclass
        rw [if_neg h2]
        decide
    · omega

set_option maxHeartbeats 16000000 in
set_option maxRecDepth 100000 in
theorem lookNode_low (n : S25) (w0 w : World) (b : Nat) (A1 : Option Addr) (c1 : Nat) (A3 : Option Addr) (c3 : Nat) (d : Nat) (box line li : Bool) (c : Nat)
    (h1 : Kd.C k47 w0 A1 n.f1.length n.f1) (l1 : n.f1.length ≤ c1) (h3 : Kd.C k25 w0 A3 n.f3.length n.f3) (l3 : n.f3.length ≤ c3) (hB : Below w0.heap.size w0 w) (hT : Tabs w0) (hsz : tsz n ≤ 70368744177664) (hb : w0.heap.size ≤ b) (hblk : w.heap[b]? = some (.cells #[.int .i64 c] 50 (0, 0))) (hc : c ≤ 2000) (hd : d ≤ 41) (hlow : 2000 < c + 1 ∨ 40 < d ∨ tclass n.f0 = 0 ∨ tclass n.f0 = 1 ∨ tclass n.f0 = 5) :
    Calls Tryd.prog 33 #[.pointer (some ⟨b, 0, none⟩), lookNodeV n A1 c1 A3 c3, aroundV d box line li] w fun e w' => e = .returned (.bool (lookN n d box line li c).1) ∧ Lk w0.heap.size b (lookN n d box line li c).2 w w' := by
  unfold lookNodeV aroundV
  obtain ⟨R, hR⟩ : ∃ R, R = lookN n d box line li c := ⟨_, rfl⟩
  rw [← hR]
  rw [lookN_eq] at hR
  have HB := Aside0.mk hB
  have HT := Aside0.mk hT
  have HSZ := Aside0.mk hsz
  have HBb := Aside0.mk hb
  have HBL := Aside0.mk hblk
  have HBS := Aside0.mk hB.size
  have H1 := Aside0.mk h1
  have H3 := Aside0.mk h3
  have L1 := Aside0.mk l1
  have L3 := Aside0.mk l3
  have H2 := h3.2.1
  have MIN := Aside0.mk (show ∀ (q : Bool) (v : World), mayOk n.f1 = q → Below w0.heap.size w0 v → Calls Tryd.prog 39 #[.slice A1 n.f1.length c1] v fun e w' => e = .returned (.bool q) ∧ Below v.heap.size v w' from fun q v h hb => h ▸ may_calls n.f1 A1 c1 v (Kd.C_below h1 hb) l1 (hT.below hb))
  have TIN := Aside0.mk (show ∀ (v : World), Calls Tryd.prog 38 #[.pointer (some ⟨b, 0, none⟩), .agg #[.int .i64 n.f0, .slice A1 n.f1.length c1, .string n.f2, .slice A3 n.f3.length c3], .agg #[.int .i64 d, .bool box, .bool line, .bool li]] v fun e w' => e = .returned (.bool (textOk n box)) ∧ Below v.heap.size v w' from fun v => text_calls _ n A1 c1 A3 c3 d box line li v (by unfold tsz at hsz; omega) h1.2.1 h3.2.1)
  clear hB hT hsz hb hblk h1 h3 l1 l3
  by_cases a1 : 2000 < c + 1
  · rw [if_pos (Or.inl a1)] at hR
    subst hR
    have b1 : decide ((c : Int) + 1 > 2000) = true := by simp; omega
    have b2 : (2000 : Int) < (c : Int) + 1 := by omega
    clear a1 hlow
    go_enter Tryd.func33, Tryd.ntmps33
    go_wp2_with (first | ((with_reducible refine gate_dst (N := 4) rfl ?_); refine box_event ?hg (N := 4) ?hd (cs := #[.int .i64 n.f0, .slice A1 n.f1.length c1, .string n.f2, .slice A3 n.f3.length c3]) (t := 25) ?hr ?_; (case hd => rfl); (case hg => rfl); (case hr => first | (go_simp; done) | (go_simp; rfl)); intro g1 hg1 v1 hbox hb; have L := Aside0.mk ((Lk.start HBL.out).below HBS.out hb); have K1 := Aside0.mk hbox; have E1 := Aside0.mk (show w.heap.size ≤ g1 from by rw [hg1]; exact Nat.le_refl _); have N1 := Aside0.mk (show g1 ≠ b from by rw [hg1]; exact (Nat.ne_of_lt (blk_lt HBL.out)).symm); clear hg1 hbox hb) | ((with_reducible refine gate_dst (N := 5) rfl ?_); refine box_event ?hg (N := 5) ?hd (cs := #[.int .i64 d, .bool box, .bool line, .bool li]) (t := 53) ?hr ?_; (case hd => rfl); (case hg => rfl); (case hr => first | (go_simp; done) | (go_simp; rfl)); intro g2 hg2 v2 hbox hb; have N12 := Aside0.mk (show g1 ≠ g2 from by rw [hg2]; exact Nat.ne_of_lt (blk_lt K1.out)); have N2 := Aside0.mk (show g2 ≠ b from by rw [hg2]; exact (Nat.ne_of_lt (blk_lt L.out.1)).symm); replace L := Aside0.mk (L.out.below (Nat.le_trans HBS.out L.out.size) hb); replace K1 := Aside0.mk (blk_below K1.out hb); have K2 := Aside0.mk hbox; have xb : v2.cell? ⟨b, 0, none⟩ = some (.int .i64 c) := blk_cell L.out.1 0; have fz : v2.frozen? ⟨b, 0, none⟩ = false := blk_frozen L.out.1 0; clear hg2 hbox hb; have x0 : v2.cell? ⟨g1, 0, none⟩ = some (.int .i64 n.f0) := blk_cell K1.out 0; have x1 : v2.cell? ⟨g1, 1, none⟩ = some (.slice A1 n.f1.length c1) := blk_cell K1.out 1; have x2 : v2.cell? ⟨g1, 2, none⟩ = some (.string n.f2) := blk_cell K1.out 2; have x3 : v2.cell? ⟨g1, 3, none⟩ = some (.slice A3 n.f3.length c3) := blk_cell K1.out 3; have y0 : v2.cell? ⟨g2, 0, none⟩ = some (.int .i64 d) := blk_cell K2.out 0; have y1 : v2.cell? ⟨g2, 1, none⟩ = some (.bool box) := blk_cell K2.out 1; have y2 : v2.cell? ⟨g2, 2, none⟩ = some (.bool line) := blk_cell K2.out 2; have y3 : v2.cell? ⟨g2, 3, none⟩ = some (.bool li) := blk_cell K2.out 3; have n1 := N1.out; have n2 := N2.out; replace K1 := Aside0.mk (((KeepBut.refl v2 b none).set_ 0 (.int .i64 ((c : Int) + 1))).blk K1.out N1.out (by simp)); replace K2 := Aside0.mk (((KeepBut.refl v2 b none).set_ 0 (.int .i64 ((c : Int) + 1))).blk K2.out N2.out (by simp)); replace L := Aside0.mk (L.out.set (c' := c + 1) (v' := (v2.setCell ⟨b, 0, none⟩ (.int .i64 ((c : Int) + 1)))) HBb.out (blk_set L.out.1 0 _) ((KeepBut.refl v2 b none).set_ 0 _) (fun B hB => below_set1 _ _ _ _ hB))))
    go_ret
    exact ⟨rfl, L.out⟩
  have b1 : decide ((c : Int) + 1 > 2000) = false := by simp; omega
  have b2 : ¬ (2000 : Int) < (c : Int) + 1 := by omega
  by_cases a2 : 40 < d
  · rw [if_pos (Or.inr a2)] at hR
    subst hR
    have b3 : decide ((d : Int) > 40) = true := by simp; omega
    have b4 : (40 : Int) < (d : Int) := by omega
    clear a1 a2 hlow
    go_enter Tryd.func33, Tryd.ntmps33
    go_wp2_with (first | ((with_reducible refine gate_dst (N := 4) rfl ?_); refine box_event ?hg (N := 4) ?hd (cs := #[.int .i64 n.f0, .slice A1 n.f1.length c1, .string n.f2, .slice A3 n.f3.length c3]) (t := 25) ?hr ?_; (case hd => rfl); (case hg => rfl); (case hr => first | (go_simp; done) | (go_simp; rfl)); intro g1 hg1 v1 hbox hb; have L := Aside0.mk ((Lk.start HBL.out).below HBS.out hb); have K1 := Aside0.mk hbox; have E1 := Aside0.mk (show w.heap.size ≤ g1 from by rw [hg1]; exact Nat.le_refl _); have N1 := Aside0.mk (show g1 ≠ b from by rw [hg1]; exact (Nat.ne_of_lt (blk_lt HBL.out)).symm); clear hg1 hbox hb) | ((with_reducible refine gate_dst (N := 5) rfl ?_); refine box_event ?hg (N := 5) ?hd (cs := #[.int .i64 d, .bool box, .bool line, .bool li]) (t := 53) ?hr ?_; (case hd => rfl); (case hg => rfl); (case hr => first | (go_simp; done) | (go_simp; rfl)); intro g2 hg2 v2 hbox hb; have N12 := Aside0.mk (show g1 ≠ g2 from by rw [hg2]; exact Nat.ne_of_lt (blk_lt K1.out)); have N2 := Aside0.mk (show g2 ≠ b from by rw [hg2]; exact (Nat.ne_of_lt (blk_lt L.out.1)).symm); replace L := Aside0.mk (L.out.below (Nat.le_trans HBS.out L.out.size) hb); replace K1 := Aside0.mk (blk_below K1.out hb); have K2 := Aside0.mk hbox; have xb : v2.cell? ⟨b, 0, none⟩ = some (.int .i64 c) := blk_cell L.out.1 0; have fz : v2.frozen? ⟨b, 0, none⟩ = false := blk_frozen L.out.1 0; clear hg2 hbox hb; have x0 : v2.cell? ⟨g1, 0, none⟩ = some (.int .i64 n.f0) := blk_cell K1.out 0; have x1 : v2.cell? ⟨g1, 1, none⟩ = some (.slice A1 n.f1.length c1) := blk_cell K1.out 1; have x2 : v2.cell? ⟨g1, 2, none⟩ = some (.string n.f2) := blk_cell K1.out 2; have x3 : v2.cell? ⟨g1, 3, none⟩ = some (.slice A3 n.f3.length c3) := blk_cell K1.out 3; have y0 : v2.cell? ⟨g2, 0, none⟩ = some (.int .i64 d) := blk_cell K2.out 0; have y1 : v2.cell? ⟨g2, 1, none⟩ = some (.bool box) := blk_cell K2.out 1; have y2 : v2.cell? ⟨g2, 2, none⟩ = some (.bool line) := blk_cell K2.out 2; have y3 : v2.cell? ⟨g2, 3, none⟩ = some (.bool li) := blk_cell K2.out 3; have n1 := N1.out; have n2 := N2.out; replace K1 := Aside0.mk (((KeepBut.refl v2 b none).set_ 0 (.int .i64 ((c : Int) + 1))).blk K1.out N1.out (by simp)); replace K2 := Aside0.mk (((KeepBut.refl v2 b none).set_ 0 (.int .i64 ((c : Int) + 1))).blk K2.out N2.out (by simp)); replace L := Aside0.mk (L.out.set (c' := c + 1) (v' := (v2.setCell ⟨b, 0, none⟩ (.int .i64 ((c : Int) + 1)))) HBb.out (blk_set L.out.1 0 _) ((KeepBut.refl v2 b none).set_ 0 _) (fun B hB => below_set1 _ _ _ _ hB))))
    go_ret
    exact ⟨rfl, L.out⟩
  have b3 : decide ((d : Int) > 40) = false := by simp; omega
  have b4 : ¬ (40 : Int) < (d : Int) := by omega
  rw [if_neg (by omega)] at hR
  by_cases a3 : tclass n.f0 = 0
  · rw [if_pos a3] at hR
    subst hR
    have b5 : (tclass n.f0 == 0) = true := by simp [a3]
    clear a1 a2 a3 hlow
    have b6 : (tclass n.f0 == 2) = false := by simp [eq_of_beq b5]
    go_enter Tryd.func33, Tryd.ntmps33
    go_wp2_with (first | ((with_reducible refine gate_dst (N := 4) rfl ?_); refine box_event ?hg (N := 4) ?hd (cs := #[.int .i64 n.f0, .slice A1 n.f1.length c1, .string n.f2, .slice A3 n.f3.length c3]) (t := 25) ?hr ?_; (case hd => rfl); (case hg => rfl); (case hr => first | (go_simp; done) | (go_simp; rfl)); intro g1 hg1 v1 hbox hb; have L := Aside0.mk ((Lk.start HBL.out).below HBS.out hb); have K1 := Aside0.mk hbox; have E1 := Aside0.mk (show w.heap.size ≤ g1 from by rw [hg1]; exact Nat.le_refl _); have N1 := Aside0.mk (show g1 ≠ b from by rw [hg1]; exact (Nat.ne_of_lt (blk_lt HBL.out)).symm); clear hg1 hbox hb) | ((with_reducible refine gate_dst (N := 5) rfl ?_); refine box_event ?hg (N := 5) ?hd (cs := #[.int .i64 d, .bool box, .bool line, .bool li]) (t := 53) ?hr ?_; (case hd => rfl); (case hg => rfl); (case hr => first | (go_simp; done) | (go_simp; rfl)); intro g2 hg2 v2 hbox hb; have N12 := Aside0.mk (show g1 ≠ g2 from by rw [hg2]; exact Nat.ne_of_lt (blk_lt K1.out)); have N2 := Aside0.mk (show g2 ≠ b from by rw [hg2]; exact (Nat.ne_of_lt (blk_lt L.out.1)).symm); replace L := Aside0.mk (L.out.below (Nat.le_trans HBS.out L.out.size) hb); replace K1 := Aside0.mk (blk_below K1.out hb); have K2 := Aside0.mk hbox; have xb : v2.cell? ⟨b, 0, none⟩ = some (.int .i64 c) := blk_cell L.out.1 0; have fz : v2.frozen? ⟨b, 0, none⟩ = false := blk_frozen L.out.1 0; clear hg2 hbox hb; have x0 : v2.cell? ⟨g1, 0, none⟩ = some (.int .i64 n.f0) := blk_cell K1.out 0; have x1 : v2.cell? ⟨g1, 1, none⟩ = some (.slice A1 n.f1.length c1) := blk_cell K1.out 1; have x2 : v2.cell? ⟨g1, 2, none⟩ = some (.string n.f2) := blk_cell K1.out 2; have x3 : v2.cell? ⟨g1, 3, none⟩ = some (.slice A3 n.f3.length c3) := blk_cell K1.out 3; have y0 : v2.cell? ⟨g2, 0, none⟩ = some (.int .i64 d) := blk_cell K2.out 0; have y1 : v2.cell? ⟨g2, 1, none⟩ = some (.bool box) := blk_cell K2.out 1; have y2 : v2.cell? ⟨g2, 2, none⟩ = some (.bool line) := blk_cell K2.out 2; have y3 : v2.cell? ⟨g2, 3, none⟩ = some (.bool li) := blk_cell K2.out 3; have n1 := N1.out; have n2 := N2.out; replace K1 := Aside0.mk (((KeepBut.refl v2 b none).set_ 0 (.int .i64 ((c : Int) + 1))).blk K1.out N1.out (by simp)); replace K2 := Aside0.mk (((KeepBut.refl v2 b none).set_ 0 (.int .i64 ((c : Int) + 1))).blk K2.out N2.out (by simp)); replace L := Aside0.mk (L.out.set (c' := c + 1) (v' := (v2.setCell ⟨b, 0, none⟩ (.int .i64 ((c : Int) + 1)))) HBb.out (blk_set L.out.1 0 _) ((KeepBut.refl v2 b none).set_ 0 _) (fun B hB => below_set1 _ _ _ _ hB))) | (go_at_call 27; refine (tags_Class.calls _ _ _ rfl).mono ?_; intro e v4 hh; obtain ⟨rfl, hb⟩ := hh; replace L := Aside0.mk (L.out.below (Nat.le_trans HBS.out L.out.size) hb); replace K1 := Aside0.mk (blk_below K1.out hb); replace K2 := Aside0.mk (blk_below K2.out hb); clear hb xb fz; clear x0 x1 x2 x3; clear y0 y1 y2 y3; have x0 : v4.cell? ⟨g1, 0, none⟩ = some (.int .i64 n.f0) := blk_cell K1.out 0; have x1 : v4.cell? ⟨g1, 1, none⟩ = some (.slice A1 n.f1.length c1) := blk_cell K1.out 1; have x2 : v4.cell? ⟨g1, 2, none⟩ = some (.string n.f2) := blk_cell K1.out 2; have x3 : v4.cell? ⟨g1, 3, none⟩ = some (.slice A3 n.f3.length c3) := blk_cell K1.out 3; have y0 : v4.cell? ⟨g2, 0, none⟩ = some (.int .i64 d) := blk_cell K2.out 0; have y1 : v4.cell? ⟨g2, 1, none⟩ = some (.bool box) := blk_cell K2.out 1; have y2 : v4.cell? ⟨g2, 2, none⟩ = some (.bool line) := blk_cell K2.out 2; have y3 : v4.cell? ⟨g2, 3, none⟩ = some (.bool li) := blk_cell K2.out 3; have p1 := blk_lt K1.out; have p2 := blk_lt K2.out; have N3 := Aside0.mk (show v4.heap.size ≠ b from (Nat.ne_of_lt (blk_lt L.out.1)).symm); have hb := (Below.refl v4.heap.size v4).alloc (Nat.le_refl _) (.cells #[.int .i64 ((d : Int) + 1), .bool false, .bool line, .bool li] 53); replace L := Aside0.mk (L.out.below (Nat.le_trans HBS.out L.out.size) hb); replace K1 := Aside0.mk (blk_below K1.out hb); replace K2 := Aside0.mk (blk_below K2.out hb); have K3 := Aside0.mk (blk_new v4 (.cells #[.int .i64 ((d : Int) + 1), .bool false, .bool line, .bool li] 53)); clear hb))
    go_ret
    exact ⟨rfl, L.out⟩
  rw [if_neg a3] at hR
  have b5 : (tclass n.f0 == 0) = false := by simp [a3]
  by_cases a4 : tclass n.f0 = 1
  · rw [if_pos a4] at hR
    subst hR
    have b6 : (tclass n.f0 == 1) = true := by simp [a4]
    have b7 : (tclass n.f0 == 2) = false := by simp [a4]
    clear a1 a2 a3 a4 hlow
    go_enter Tryd.func33, Tryd.ntmps33
    go_wp2_with (first | ((with_reducible refine gate_dst (N := 4) rfl ?_); refine box_event ?hg (N := 4) ?hd (cs := #[.int .i64 n.f0, .slice A1 n.f1.length c1, .string n.f2, .slice A3 n.f3.length c3]) (t := 25) ?hr ?_; (case hd => rfl); (case hg => rfl); (case hr => first | (go_simp; done) | (go_simp; rfl)); intro g1 hg1 v1 hbox hb; have L := Aside0.mk ((Lk.start HBL.out).below HBS.out hb); have K1 := Aside0.mk hbox; have E1 := Aside0.mk (show w.heap.size ≤ g1 from by rw [hg1]; exact Nat.le_refl _); have N1 := Aside0.mk (show g1 ≠ b from by rw [hg1]; exact (Nat.ne_of_lt (blk_lt HBL.out)).symm); clear hg1 hbox hb) | ((with_reducible refine gate_dst (N := 5) rfl ?_); refine box_event ?hg (N := 5) ?hd (cs := #[.int .i64 d, .bool box, .bool line, .bool li]) (t := 53) ?hr ?_; (case hd => rfl); (case hg => rfl); (case hr => first | (go_simp; done) | (go_simp; rfl)); intro g2 hg2 v2 hbox hb; have N12 := Aside0.mk (show g1 ≠ g2 from by rw [hg2]; exact Nat.ne_of_lt (blk_lt K1.out)); have N2 := Aside0.mk (show g2 ≠ b from by rw [hg2]; exact (Nat.ne_of_lt (blk_lt L.out.1)).symm); replace L := Aside0.mk (L.out.below (Nat.le_trans HBS.out L.out.size) hb); replace K1 := Aside0.mk (blk_below K1.out hb); have K2 := Aside0.mk hbox; have xb : v2.cell? ⟨b, 0, none⟩ = some (.int .i64 c) := blk_cell L.out.1 0; have fz : v2.frozen? ⟨b, 0, none⟩ = false := blk_frozen L.out.1 0; clear hg2 hbox hb; have x0 : v2.cell? ⟨g1, 0, none⟩ = some (.int .i64 n.f0) := blk_cell K1.out 0; have x1 : v2.cell? ⟨g1, 1, none⟩ = some (.slice A1 n.f1.length c1) := blk_cell K1.out 1; have x2 : v2.cell? ⟨g1, 2, none⟩ = some (.string n.f2) := blk_cell K1.out 2; have x3 : v2.cell? ⟨g1, 3, none⟩ = some (.slice A3 n.f3.length c3) := blk_cell K1.out 3; have y0 : v2.cell? ⟨g2, 0, none⟩ = some (.int .i64 d) := blk_cell K2.out 0; have y1 : v2.cell? ⟨g2, 1, none⟩ = some (.bool box) := blk_cell K2.out 1; have y2 : v2.cell? ⟨g2, 2, none⟩ = some (.bool line) := blk_cell K2.out 2; have y3 : v2.cell? ⟨g2, 3, none⟩ = some (.bool li) := blk_cell K2.out 3; have n1 := N1.out; have n2 := N2.out; replace K1 := Aside0.mk (((KeepBut.refl v2 b none).set_ 0 (.int .i64 ((c : Int) + 1))).blk K1.out N1.out (by simp)); replace K2 := Aside0.mk (((KeepBut.refl v2 b none).set_ 0 (.int .i64 ((c : Int) + 1))).blk K2.out N2.out (by simp)); replace L := Aside0.mk (L.out.set (c' := c + 1) (v' := (v2.setCell ⟨b, 0, none⟩ (.int .i64 ((c : Int) + 1)))) HBb.out (blk_set L.out.1 0 _) ((KeepBut.refl v2 b none).set_ 0 _) (fun B hB => below_set1 _ _ _ _ hB))) | (go_at_call 27; refine (tags_Class.calls _ _ _ rfl).mono ?_; intro e v4 hh; obtain ⟨rfl, hb⟩ := hh; replace L := Aside0.mk (L.out.below (Nat.le_trans HBS.out L.out.size) hb); replace K1 := Aside0.mk (blk_below K1.out hb); replace K2 := Aside0.mk (blk_below K2.out hb); clear hb xb fz; clear x0 x1 x2 x3; clear y0 y1 y2 y3; have x0 : v4.cell? ⟨g1, 0, none⟩ = some (.int .i64 n.f0) := blk_cell K1.out 0; have x1 : v4.cell? ⟨g1, 1, none⟩ = some (.slice A1 n.f1.length c1) := blk_cell K1.out 1; have x2 : v4.cell? ⟨g1, 2, none⟩ = some (.string n.f2) := blk_cell K1.out 2; have x3 : v4.cell? ⟨g1, 3, none⟩ = some (.slice A3 n.f3.length c3) := blk_cell K1.out 3; have y0 : v4.cell? ⟨g2, 0, none⟩ = some (.int .i64 d) := blk_cell K2.out 0; have y1 : v4.cell? ⟨g2, 1, none⟩ = some (.bool box) := blk_cell K2.out 1; have y2 : v4.cell? ⟨g2, 2, none⟩ = some (.bool line) := blk_cell K2.out 2; have y3 : v4.cell? ⟨g2, 3, none⟩ = some (.bool li) := blk_cell K2.out 3; have p1 := blk_lt K1.out; have p2 := blk_lt K2.out; have N3 := Aside0.mk (show v4.heap.size ≠ b from (Nat.ne_of_lt (blk_lt L.out.1)).symm); have hb := (Below.refl v4.heap.size v4).alloc (Nat.le_refl _) (.cells #[.int .i64 ((d : Int) + 1), .bool false, .bool line, .bool li] 53); replace L := Aside0.mk (L.out.below (Nat.le_trans HBS.out L.out.size) hb); replace K1 := Aside0.mk (blk_below K1.out hb); replace K2 := Aside0.mk (blk_below K2.out hb); have K3 := Aside0.mk (blk_new v4 (.cells #[.int .i64 ((d : Int) + 1), .bool false, .bool line, .bool li] 53)); clear hb) | (go_at_call 38; refine (TIN.out _).mono ?_; intro e v9 hh; obtain ⟨rfl, hb⟩ := hh; replace L := Aside0.mk (L.out.below (Nat.le_trans HBS.out L.out.size) hb); replace K1 := Aside0.mk (blk_below K1.out hb); replace K2 := Aside0.mk (blk_below K2.out hb); clear hb))
    go_ret
    exact ⟨rfl, L.out⟩
  have a5 : tclass n.f0 = 5 := by omega
  rw [if_neg a4, if_pos a5] at hR
  have b6 : (tclass n.f0 == 1) = false := by simp [a4]
  have b7 : (tclass n.f0 == 2) = false := by simp [a5]
  have b8 : (tclass n.f0 == 5) = true := by simp [a5]
  clear a1 a2 a3 a4 a5 hlow
  cases t1 : n.f2.toList.isEmpty
  · rw [t1, Bool.false_and] at hR
    subst hR
    have t2 : ¬ n.f2.toList = [] := by intro e; rw [e] at t1; cases t1
    clear t1
    go_enter Tryd.func33, Tryd.ntmps33
    go_wp2_with (first | ((with_reducible refine gate_dst (N := 4) rfl ?_); refine box_event ?hg (N := 4) ?hd (cs := #[.int .i64 n.f0, .slice A1 n.f1.length c1, .string n.f2, .slice A3 n.f3.length c3]) (t := 25) ?hr ?_; (case hd => rfl); (case hg => rfl); (case hr => first | (go_simp; done) | (go_simp; rfl)); intro g1 hg1 v1 hbox hb; have L := Aside0.mk ((Lk.start HBL.out).below HBS.out hb); have K1 := Aside0.mk hbox; have E1 := Aside0.mk (show w.heap.size ≤ g1 from by rw [hg1]; exact Nat.le_refl _); have N1 := Aside0.mk (show g1 ≠ b from by rw [hg1]; exact (Nat.ne_of_lt (blk_lt HBL.out)).symm); clear hg1 hbox hb) | ((with_reducible refine gate_dst (N := 5) rfl ?_); refine box_event ?hg (N := 5) ?hd (cs := #[.int .i64 d, .bool box, .bool line, .bool li]) (t := 53) ?hr ?_; (case hd => rfl); (case hg => rfl); (case hr => first | (go_simp; done) | (go_simp; rfl)); intro g2 hg2 v2 hbox hb; have N12 := Aside0.mk (show g1 ≠ g2 from by rw [hg2]; exact Nat.ne_of_lt (blk_lt K1.out)); have N2 := Aside0.mk (show g2 ≠ b from by rw [hg2]; exact (Nat.ne_of_lt (blk_lt L.out.1)).symm); replace L := Aside0.mk (L.out.below (Nat.le_trans HBS.out L.out.size) hb); replace K1 := Aside0.mk (blk_below K1.out hb); have K2 := Aside0.mk hbox; have xb : v2.cell? ⟨b, 0, none⟩ = some (.int .i64 c) := blk_cell L.out.1 0; have fz : v2.frozen? ⟨b, 0, none⟩ = false := blk_frozen L.out.1 0; clear hg2 hbox hb; have x0 : v2.cell? ⟨g1, 0, none⟩ = some (.int .i64 n.f0) := blk_cell K1.out 0; have x1 : v2.cell? ⟨g1, 1, none⟩ = some (.slice A1 n.f1.length c1) := blk_cell K1.out 1; have x2 : v2.cell? ⟨g1, 2, none⟩ = some (.string n.f2) := blk_cell K1.out 2; have x3 : v2.cell? ⟨g1, 3, none⟩ = some (.slice A3 n.f3.length c3) := blk_cell K1.out 3; have y0 : v2.cell? ⟨g2, 0, none⟩ = some (.int .i64 d) := blk_cell K2.out 0; have y1 : v2.cell? ⟨g2, 1, none⟩ = some (.bool box) := blk_cell K2.out 1; have y2 : v2.cell? ⟨g2, 2, none⟩ = some (.bool line) := blk_cell K2.out 2; have y3 : v2.cell? ⟨g2, 3, none⟩ = some (.bool li) := blk_cell K2.out 3; have n1 := N1.out; have n2 := N2.out; replace K1 := Aside0.mk (((KeepBut.refl v2 b none).set_ 0 (.int .i64 ((c : Int) + 1))).blk K1.out N1.out (by simp)); replace K2 := Aside0.mk (((KeepBut.refl v2 b none).set_ 0 (.int .i64 ((c : Int) + 1))).blk K2.out N2.out (by simp)); replace L := Aside0.mk (L.out.set (c' := c + 1) (v' := (v2.setCell ⟨b, 0, none⟩ (.int .i64 ((c : Int) + 1)))) HBb.out (blk_set L.out.1 0 _) ((KeepBut.refl v2 b none).set_ 0 _) (fun B hB => below_set1 _ _ _ _ hB))) | (go_at_call 27; refine (tags_Class.calls _ _ _ rfl).mono ?_; intro e v4 hh; obtain ⟨rfl, hb⟩ := hh; replace L := Aside0.mk (L.out.below (Nat.le_trans HBS.out L.out.size) hb); replace K1 := Aside0.mk (blk_below K1.out hb); replace K2 := Aside0.mk (blk_below K2.out hb); clear hb xb fz; clear x0 x1 x2 x3; clear y0 y1 y2 y3; have x0 : v4.cell? ⟨g1, 0, none⟩ = some (.int .i64 n.f0) := blk_cell K1.out 0; have x1 : v4.cell? ⟨g1, 1, none⟩ = some (.slice A1 n.f1.length c1) := blk_cell K1.out 1; have x2 : v4.cell? ⟨g1, 2, none⟩ = some (.string n.f2) := blk_cell K1.out 2; have x3 : v4.cell? ⟨g1, 3, none⟩ = some (.slice A3 n.f3.length c3) := blk_cell K1.out 3; have y0 : v4.cell? ⟨g2, 0, none⟩ = some (.int .i64 d) := blk_cell K2.out 0; have y1 : v4.cell? ⟨g2, 1, none⟩ = some (.bool box) := blk_cell K2.out 1; have y2 : v4.cell? ⟨g2, 2, none⟩ = some (.bool line) := blk_cell K2.out 2; have y3 : v4.cell? ⟨g2, 3, none⟩ = some (.bool li) := blk_cell K2.out 3; have p1 := blk_lt K1.out; have p2 := blk_lt K2.out; have N3 := Aside0.mk (show v4.heap.size ≠ b from (Nat.ne_of_lt (blk_lt L.out.1)).symm); have hb := (Below.refl v4.heap.size v4).alloc (Nat.le_refl _) (.cells #[.int .i64 ((d : Int) + 1), .bool false, .bool line, .bool li] 53); replace L := Aside0.mk (L.out.below (Nat.le_trans HBS.out L.out.size) hb); replace K1 := Aside0.mk (blk_below K1.out hb); replace K2 := Aside0.mk (blk_below K2.out hb); have K3 := Aside0.mk (blk_new v4 (.cells #[.int .i64 ((d : Int) + 1), .bool false, .bool line, .bool li] 53)); clear hb))
    go_ret
    exact ⟨rfl, L.out⟩
  have t2 : n.f2.toList = [] := by simpa using t1
  rw [t1, Bool.true_and] at hR
  clear t1
  cases t3 : mayOk n.f1
  · rw [t3, Bool.false_and] at hR
    subst hR
    have HM := Aside0.mk t3
    clear t3
    go_enter Tryd.func33, Tryd.ntmps33
    go_wp2_with (first | ((with_reducible refine gate_dst (N := 4) rfl ?_); refine box_event ?hg (N := 4) ?hd (cs := #[.int .i64 n.f0, .slice A1 n.f1.length c1, .string n.f2, .slice A3 n.f3.length c3]) (t := 25) ?hr ?_; (case hd => rfl); (case hg => rfl); (case hr => first | (go_simp; done) | (go_simp; rfl)); intro g1 hg1 v1 hbox hb; have L := Aside0.mk ((Lk.start HBL.out).below HBS.out hb); have K1 := Aside0.mk hbox; have E1 := Aside0.mk (show w.heap.size ≤ g1 from by rw [hg1]; exact Nat.le_refl _); have N1 := Aside0.mk (show g1 ≠ b from by rw [hg1]; exact (Nat.ne_of_lt (blk_lt HBL.out)).symm); clear hg1 hbox hb) | ((with_reducible refine gate_dst (N := 5) rfl ?_); refine box_event ?hg (N := 5) ?hd (cs := #[.int .i64 d, .bool box, .bool line, .bool li]) (t := 53) ?hr ?_; (case hd => rfl); (case hg => rfl); (case hr => first | (go_simp; done) | (go_simp; rfl)); intro g2 hg2 v2 hbox hb; have N12 := Aside0.mk (show g1 ≠ g2 from by rw [hg2]; exact Nat.ne_of_lt (blk_lt K1.out)); have N2 := Aside0.mk (show g2 ≠ b from by rw [hg2]; exact (Nat.ne_of_lt (blk_lt L.out.1)).symm); replace L := Aside0.mk (L.out.below (Nat.le_trans HBS.out L.out.size) hb); replace K1 := Aside0.mk (blk_below K1.out hb); have K2 := Aside0.mk hbox; have xb : v2.cell? ⟨b, 0, none⟩ = some (.int .i64 c) := blk_cell L.out.1 0; have fz : v2.frozen? ⟨b, 0, none⟩ = false := blk_frozen L.out.1 0; clear hg2 hbox hb; have x0 : v2.cell? ⟨g1, 0, none⟩ = some (.int .i64 n.f0) := blk_cell K1.out 0; have x1 : v2.cell? ⟨g1, 1, none⟩ = some (.slice A1 n.f1.length c1) := blk_cell K1.out 1; have x2 : v2.cell? ⟨g1, 2, none⟩ = some (.string n.f2) := blk_cell K1.out 2; have x3 : v2.cell? ⟨g1, 3, none⟩ = some (.slice A3 n.f3.length c3) := blk_cell K1.out 3; have y0 : v2.cell? ⟨g2, 0, none⟩ = some (.int .i64 d) := blk_cell K2.out 0; have y1 : v2.cell? ⟨g2, 1, none⟩ = some (.bool box) := blk_cell K2.out 1; have y2 : v2.cell? ⟨g2, 2, none⟩ = some (.bool line) := blk_cell K2.out 2; have y3 : v2.cell? ⟨g2, 3, none⟩ = some (.bool li) := blk_cell K2.out 3; have n1 := N1.out; have n2 := N2.out; replace K1 := Aside0.mk (((KeepBut.refl v2 b none).set_ 0 (.int .i64 ((c : Int) + 1))).blk K1.out N1.out (by simp)); replace K2 := Aside0.mk (((KeepBut.refl v2 b none).set_ 0 (.int .i64 ((c : Int) + 1))).blk K2.out N2.out (by simp)); replace L := Aside0.mk (L.out.set (c' := c + 1) (v' := (v2.setCell ⟨b, 0, none⟩ (.int .i64 ((c : Int) + 1)))) HBb.out (blk_set L.out.1 0 _) ((KeepBut.refl v2 b none).set_ 0 _) (fun B hB => below_set1 _ _ _ _ hB))) | (go_at_call 27; refine (tags_Class.calls _ _ _ rfl).mono ?_; intro e v4 hh; obtain ⟨rfl, hb⟩ := hh; replace L := Aside0.mk (L.out.below (Nat.le_trans HBS.out L.out.size) hb); replace K1 := Aside0.mk (blk_below K1.out hb); replace K2 := Aside0.mk (blk_below K2.out hb); clear hb xb fz; clear x0 x1 x2 x3; clear y0 y1 y2 y3; have x0 : v4.cell? ⟨g1, 0, none⟩ = some (.int .i64 n.f0) := blk_cell K1.out 0; have x1 : v4.cell? ⟨g1, 1, none⟩ = some (.slice A1 n.f1.length c1) := blk_cell K1.out 1; have x2 : v4.cell? ⟨g1, 2, none⟩ = some (.string n.f2) := blk_cell K1.out 2; have x3 : v4.cell? ⟨g1, 3, none⟩ = some (.slice A3 n.f3.length c3) := blk_cell K1.out 3; have y0 : v4.cell? ⟨g2, 0, none⟩ = some (.int .i64 d) := blk_cell K2.out 0; have y1 : v4.cell? ⟨g2, 1, none⟩ = some (.bool box) := blk_cell K2.out 1; have y2 : v4.cell? ⟨g2, 2, none⟩ = some (.bool line) := blk_cell K2.out 2; have y3 : v4.cell? ⟨g2, 3, none⟩ = some (.bool li) := blk_cell K2.out 3; have p1 := blk_lt K1.out; have p2 := blk_lt K2.out; have N3 := Aside0.mk (show v4.heap.size ≠ b from (Nat.ne_of_lt (blk_lt L.out.1)).symm); have hb := (Below.refl v4.heap.size v4).alloc (Nat.le_refl _) (.cells #[.int .i64 ((d : Int) + 1), .bool false, .bool line, .bool li] 53); replace L := Aside0.mk (L.out.below (Nat.le_trans HBS.out L.out.size) hb); replace K1 := Aside0.mk (blk_below K1.out hb); replace K2 := Aside0.mk (blk_below K2.out hb); have K3 := Aside0.mk (blk_new v4 (.cells #[.int .i64 ((d : Int) + 1), .bool false, .bool line, .bool li] 53)); clear hb) | (go_at_call 39; refine (MIN.out false _ HM.out (HB.out.trans L.out.2.1)).mono ?_; intro e v9 hh; obtain ⟨rfl, hb⟩ := hh; replace L := Aside0.mk (L.out.below (Nat.le_trans HBS.out L.out.size) hb); replace K1 := Aside0.mk (blk_below K1.out hb); replace K2 := Aside0.mk (blk_below K2.out hb); clear hb; clear x0 x1 x2 x3; have x0 : v9.cell? ⟨g1, 0, none⟩ = some (.int .i64 n.f0) := blk_cell K1.out 0; have x1 : v9.cell? ⟨g1, 1, none⟩ = some (.slice A1 n.f1.length c1) := blk_cell K1.out 1; have x2 : v9.cell? ⟨g1, 2, none⟩ = some (.string n.f2) := blk_cell K1.out 2; have x3 : v9.cell? ⟨g1, 3, none⟩ = some (.slice A3 n.f3.length c3) := blk_cell K1.out 3))
    go_ret
    exact ⟨rfl, L.out⟩
  rw [t3, Bool.true_and] at hR
  have HM := Aside0.mk t3
  clear t3
  by_cases t4 : n.f3.length = 0
  · rw [decide_eq_true t4] at hR
    subst hR
    have t5 : (((n.f3.length : Nat) : Int) == 0) = true := by simpa using t4
    clear t4
    go_enter Tryd.func33, Tryd.ntmps33
    go_wp2_with (first | ((with_reducible refine gate_dst (N := 4) rfl ?_); refine box_event ?hg (N := 4) ?hd (cs := #[.int .i64 n.f0, .slice A1 n.f1.length c1, .string n.f2, .slice A3 n.f3.length c3]) (t := 25) ?hr ?_; (case hd => rfl); (case hg => rfl); (case hr => first | (go_simp; done) | (go_simp; rfl)); intro g1 hg1 v1 hbox hb; have L := Aside0.mk ((Lk.start HBL.out).below HBS.out hb); have K1 := Aside0.mk hbox; have E1 := Aside0.mk (show w.heap.size ≤ g1 from by rw [hg1]; exact Nat.le_refl _); have N1 := Aside0.mk (show g1 ≠ b from by rw [hg1]; exact (Nat.ne_of_lt (blk_lt HBL.out)).symm); clear hg1 hbox hb) | ((with_reducible refine gate_dst (N := 5) rfl ?_); refine box_event ?hg (N := 5) ?hd (cs := #[.int .i64 d, .bool box, .bool line, .bool li]) (t := 53) ?hr ?_; (case hd => rfl); (case hg => rfl); (case hr => first | (go_simp; done) | (go_simp; rfl)); intro g2 hg2 v2 hbox hb; have N12 := Aside0.mk (show g1 ≠ g2 from by rw [hg2]; exact Nat.ne_of_lt (blk_lt K1.out)); have N2 := Aside0.mk (show g2 ≠ b from by rw [hg2]; exact (Nat.ne_of_lt (blk_lt L.out.1)).symm); replace L := Aside0.mk (L.out.below (Nat.le_trans HBS.out L.out.size) hb); replace K1 := Aside0.mk (blk_below K1.out hb); have K2 := Aside0.mk hbox; have xb : v2.cell? ⟨b, 0, none⟩ = some (.int .i64 c) := blk_cell L.out.1 0; have fz : v2.frozen? ⟨b, 0, none⟩ = false := blk_frozen L.out.1 0; clear hg2 hbox hb; have x0 : v2.cell? ⟨g1, 0, none⟩ = some (.int .i64 n.f0) := blk_cell K1.out 0; have x1 : v2.cell? ⟨g1, 1, none⟩ = some (.slice A1 n.f1.length c1) := blk_cell K1.out 1; have x2 : v2.cell? ⟨g1, 2, none⟩ = some (.string n.f2) := blk_cell K1.out 2; have x3 : v2.cell? ⟨g1, 3, none⟩ = some (.slice A3 n.f3.length c3) := blk_cell K1.out 3; have y0 : v2.cell? ⟨g2, 0, none⟩ = some (.int .i64 d) := blk_cell K2.out 0; have y1 : v2.cell? ⟨g2, 1, none⟩ = some (.bool box) := blk_cell K2.out 1; have y2 : v2.cell? ⟨g2, 2, none⟩ = some (.bool line) := blk_cell K2.out 2; have y3 : v2.cell? ⟨g2, 3, none⟩ = some (.bool li) := blk_cell K2.out 3; have n1 := N1.out; have n2 := N2.out; replace K1 := Aside0.mk (((KeepBut.refl v2 b none).set_ 0 (.int .i64 ((c : Int) + 1))).blk K1.out N1.out (by simp)); replace K2 := Aside0.mk (((KeepBut.refl v2 b none).set_ 0 (.int .i64 ((c : Int) + 1))).blk K2.out N2.out (by simp)); replace L := Aside0.mk (L.out.set (c' := c + 1) (v' := (v2.setCell ⟨b, 0, none⟩ (.int .i64 ((c : Int) + 1)))) HBb.out (blk_set L.out.1 0 _) ((KeepBut.refl v2 b none).set_ 0 _) (fun B hB => below_set1 _ _ _ _ hB))) | (go_at_call 27; refine (tags_Class.calls _ _ _ rfl).mono ?_; intro e v4 hh; obtain ⟨rfl, hb⟩ := hh; replace L := Aside0.mk (L.out.below (Nat.le_trans HBS.out L.out.size) hb); replace K1 := Aside0.mk (blk_below K1.out hb); replace K2 := Aside0.mk (blk_below K2.out hb); clear hb xb fz; clear x0 x1 x2 x3; clear y0 y1 y2 y3; have x0 : v4.cell? ⟨g1, 0, none⟩ = some (.int .i64 n.f0) := blk_cell K1.out 0; have x1 : v4.cell? ⟨g1, 1, none⟩ = some (.slice A1 n.f1.length c1) := blk_cell K1.out 1; have x2 : v4.cell? ⟨g1, 2, none⟩ = some (.string n.f2) := blk_cell K1.out 2; have x3 : v4.cell? ⟨g1, 3, none⟩ = some (.slice A3 n.f3.length c3) := blk_cell K1.out 3; have y0 : v4.cell? ⟨g2, 0, none⟩ = some (.int .i64 d) := blk_cell K2.out 0; have y1 : v4.cell? ⟨g2, 1, none⟩ = some (.bool box) := blk_cell K2.out 1; have y2 : v4.cell? ⟨g2, 2, none⟩ = some (.bool line) := blk_cell K2.out 2; have y3 : v4.cell? ⟨g2, 3, none⟩ = some (.bool li) := blk_cell K2.out 3; have p1 := blk_lt K1.out; have p2 := blk_lt K2.out; have N3 := Aside0.mk (show v4.heap.size ≠ b from (Nat.ne_of_lt (blk_lt L.out.1)).symm); have hb := (Below.refl v4.heap.size v4).alloc (Nat.le_refl _) (.cells #[.int .i64 ((d : Int) + 1), .bool false, .bool line, .bool li] 53); replace L := Aside0.mk (L.out.below (Nat.le_trans HBS.out L.out.size) hb); replace K1 := Aside0.mk (blk_below K1.out hb); replace K2 := Aside0.mk (blk_below K2.out hb); have K3 := Aside0.mk (blk_new v4 (.cells #[.int .i64 ((d : Int) + 1), .bool false, .bool line, .bool li] 53)); clear hb) | (go_at_call 39; refine (MIN.out true _ HM.out (HB.out.trans L.out.2.1)).mono ?_; intro e v9 hh; obtain ⟨rfl, hb⟩ := hh; replace L := Aside0.mk (L.out.below (Nat.le_trans HBS.out L.out.size) hb); replace K1 := Aside0.mk (blk_below K1.out hb); replace K2 := Aside0.mk (blk_below K2.out hb); clear hb; clear x0 x1 x2 x3; have x0 : v9.cell? ⟨g1, 0, none⟩ = some (.int .i64 n.f0) := blk_cell K1.out 0; have x1 : v9.cell? ⟨g1, 1, none⟩ = some (.slice A1 n.f1.length c1) := blk_cell K1.out 1; have x2 : v9.cell? ⟨g1, 2, none⟩ = some (.string n.f2) := blk_cell K1.out 2; have x3 : v9.cell? ⟨g1, 3, none⟩ = some (.slice A3 n.f3.length c3) := blk_cell K1.out 3))
    go_ret
    exact ⟨rfl, L.out⟩
  rw [decide_eq_false t4] at hR
  subst hR
  have t5 : (((n.f3.length : Nat) : Int) == 0) = false := by simpa using t4
  clear t4
  go_enter Tryd.func33, Tryd.ntmps33
  go_wp2_with (first | ((with_reducible refine gate_dst (N := 4) rfl ?_); refine box_event ?hg (N := 4) ?hd (cs := #[.int .i64 n.f0, .slice A1 n.f1.length c1, .string n.f2, .slice A3 n.f3.length c3]) (t := 25) ?hr ?_; (case hd => rfl); (case hg => rfl); (case hr => first | (go_simp; done) | (go_simp; rfl)); intro g1 hg1 v1 hbox hb; have L := Aside0.mk ((Lk.start HBL.out).below HBS.out hb); have K1 := Aside0.mk hbox; have E1 := Aside0.mk (show w.heap.size ≤ g1 from by rw [hg1]; exact Nat.le_refl _); have N1 := Aside0.mk (show g1 ≠ b from by rw [hg1]; exact (Nat.ne_of_lt (blk_lt HBL.out)).symm); clear hg1 hbox hb) | ((with_reducible refine gate_dst (N := 5) rfl ?_); refine box_event ?hg (N := 5) ?hd (cs := #[.int .i64 d, .bool box, .bool line, .bool li]) (t := 53) ?hr ?_; (case hd => rfl); (case hg => rfl); (case hr => first | (go_simp; done) | (go_simp; rfl)); intro g2 hg2 v2 hbox hb; have N12 := Aside0.mk (show g1 ≠ g2 from by rw [hg2]; exact Nat.ne_of_lt (blk_lt K1.out)); have N2 := Aside0.mk (show g2 ≠ b from by rw [hg2]; exact (Nat.ne_of_lt (blk_lt L.out.1)).symm); replace L := Aside0.mk (L.out.below (Nat.le_trans HBS.out L.out.size) hb); replace K1 := Aside0.mk (blk_below K1.out hb); have K2 := Aside0.mk hbox; have xb : v2.cell? ⟨b, 0, none⟩ = some (.int .i64 c) := blk_cell L.out.1 0; have fz : v2.frozen? ⟨b, 0, none⟩ = false := blk_frozen L.out.1 0; clear hg2 hbox hb; have x0 : v2.cell? ⟨g1, 0, none⟩ = some (.int .i64 n.f0) := blk_cell K1.out 0; have x1 : v2.cell? ⟨g1, 1, none⟩ = some (.slice A1 n.f1.length c1) := blk_cell K1.out 1; have x2 : v2.cell? ⟨g1, 2, none⟩ = some (.string n.f2) := blk_cell K1.out 2; have x3 : v2.cell? ⟨g1, 3, none⟩ = some (.slice A3 n.f3.length c3) := blk_cell K1.out 3; have y0 : v2.cell? ⟨g2, 0, none⟩ = some (.int .i64 d) := blk_cell K2.out 0; have y1 : v2.cell? ⟨g2, 1, none⟩ = some (.bool box) := blk_cell K2.out 1; have y2 : v2.cell? ⟨g2, 2, none⟩ = some (.bool line) := blk_cell K2.out 2; have y3 : v2.cell? ⟨g2, 3, none⟩ = some (.bool li) := blk_cell K2.out 3; have n1 := N1.out; have n2 := N2.out; replace K1 := Aside0.mk (((KeepBut.refl v2 b none).set_ 0 (.int .i64 ((c : Int) + 1))).blk K1.out N1.out (by simp)); replace K2 := Aside0.mk (((KeepBut.refl v2 b none).set_ 0 (.int .i64 ((c : Int) + 1))).blk K2.out N2.out (by simp)); replace L := Aside0.mk (L.out.set (c' := c + 1) (v' := (v2.setCell ⟨b, 0, none⟩ (.int .i64 ((c : Int) + 1)))) HBb.out (blk_set L.out.1 0 _) ((KeepBut.refl v2 b none).set_ 0 _) (fun B hB => below_set1 _ _ _ _ hB))) | (go_at_call 27; refine (tags_Class.calls _ _ _ rfl).mono ?_; intro e v4 hh; obtain ⟨rfl, hb⟩ := hh; replace L := Aside0.mk (L.out.below (Nat.le_trans HBS.out L.out.size) hb); replace K1 := Aside0.mk (blk_below K1.out hb); replace K2 := Aside0.mk (blk_below K2.out hb); clear hb xb fz; clear x0 x1 x2 x3; clear y0 y1 y2 y3; have x0 : v4.cell? ⟨g1, 0, none⟩ = some (.int .i64 n.f0) := blk_cell K1.out 0; have x1 : v4.cell? ⟨g1, 1, none⟩ = some (.slice A1 n.f1.length c1) := blk_cell K1.out 1; have x2 : v4.cell? ⟨g1, 2, none⟩ = some (.string n.f2) := blk_cell K1.out 2; have x3 : v4.cell? ⟨g1, 3, none⟩ = some (.slice A3 n.f3.length c3) := blk_cell K1.out 3; have y0 : v4.cell? ⟨g2, 0, none⟩ = some (.int .i64 d) := blk_cell K2.out 0; have y1 : v4.cell? ⟨g2, 1, none⟩ = some (.bool box) := blk_cell K2.out 1; have y2 : v4.cell? ⟨g2, 2, none⟩ = some (.bool line) := blk_cell K2.out 2; have y3 : v4.cell? ⟨g2, 3, none⟩ = some (.bool li) := blk_cell K2.out 3; have p1 := blk_lt K1.out; have p2 := blk_lt K2.out; have N3 := Aside0.mk (show v4.heap.size ≠ b from (Nat.ne_of_lt (blk_lt L.out.1)).symm); have hb := (Below.refl v4.heap.size v4).alloc (Nat.le_refl _) (.cells #[.int .i64 ((d : Int) + 1), .bool false, .bool line, .bool li] 53); replace L := Aside0.mk (L.out.below (Nat.le_trans HBS.out L.out.size) hb); replace K1 := Aside0.mk (blk_below K1.out hb); replace K2 := Aside0.mk (blk_below K2.out hb); have K3 := Aside0.mk (blk_new v4 (.cells #[.int .i64 ((d : Int) + 1), .bool false, .bool line, .bool li] 53)); clear hb) | (go_at_call 39; refine (MIN.out true _ HM.out (HB.out.trans L.out.2.1)).mono ?_; intro e v9 hh; obtain ⟨rfl, hb⟩ := hh; replace L := Aside0.mk (L.out.below (Nat.le_trans HBS.out L.out.size) hb); replace K1 := Aside0.mk (blk_below K1.out hb); replace K2 := Aside0.mk (blk_below K2.out hb); clear hb; clear x0 x1 x2 x3; have x0 : v9.cell? ⟨g1, 0, none⟩ = some (.int .i64 n.f0) := blk_cell K1.out 0; have x1 : v9.cell? ⟨g1, 1, none⟩ = some (.slice A1 n.f1.length c1) := blk_cell K1.out 1; have x2 : v9.cell? ⟨g1, 2, none⟩ = some (.string n.f2) := blk_cell K1.out 2; have x3 : v9.cell? ⟨g1, 3, none⟩ = some (.slice A3 n.f3.length c3) := blk_cell K1.out 3))
  go_ret
  exact ⟨rfl, L.out⟩

end Go.Proofs.YtbbikcmkcgoamaaDoor.Pp
