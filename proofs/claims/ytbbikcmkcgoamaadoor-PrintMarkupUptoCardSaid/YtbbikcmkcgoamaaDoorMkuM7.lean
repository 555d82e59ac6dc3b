/- Joined by merge.py of this session: words, walks and plain laws of this claim. -/
import Derived.Test.YtbbikcmkcgoamaaDoorMkuM3
import Derived.Test.YtbbikcmkcgoamaaDoorMkuM4
import Derived.Test.YtbbikcmkcgoamaaDoorMkuM0
import Derived.Test.YtbbikcmkcgoamaaDoorMkuM1
import Derived.Test.YtbbikcmkcgoamaaDoorMkuM2
import Derived.Deep.MidRow
import Derived.Laws.Rows
import Derived.Laws.IdiomStrings
import Derived.Laws.Cover4
import Derived.WalkSpells
import Derived.Lib.OthersKept
import Derived.Outline
import Derived.BigCall
import Derived.Shelf.Strings.SlTrimAscii
import Derived.Shelf.Unicode.ValidAny
import Derived.Shelf.Utf8.AppendRunePlain
import Derived.Test.YtbbikcmkcgoamaaDoorProg
import Derived.Lib.Builder
import Derived.Lib.AppendStr
import Derived.Lib.UnsafeStr
import Derived.Lib.MakeNoZero
import Derived.Lib.RuneBytes
import Derived.Laws.Externs
import Derived.WalkKit
import Derived.RegionTactic
set_option linter.unusedSimpArgs false
set_option linter.unusedVariables false
namespace Go.Proofs.YtbbikcmkcgoamaaDoor.Pp
open Go.RowKit Go.Proofs.YtbbikcmkcgoamaaDoorW.PrintWords Go.Proofs.YtbbikcmkcgoamaaDoorW.PrintLast Go.Proofs.YtbbikcmkcgoamaaDoorW.PrintMore
mutual
def nsz : S25 → Nat
 | ⟨_, l, tx, ks⟩ => 1 + tx.size + (l.map fun a => 1 + a.f0.size + a.f1.size).sum + nszK ks
def nszK : List S25 → Nat
 | [] => 0
 | k :: ks => nsz k + nszK ks
end
theorem nsz_eq (n : S25) : nsz n = 1 + n.f2.size + (n.f1.map fun a => 1 + a.f0.size + a.f1.size).sum + nszK n.f3 := by
 cases n
 simp only [nsz]
theorem nsz_pos (n : S25) : 1 ≤ nsz n := by rw [nsz_eq]; omega
theorem nszK_len : ∀ l : List S25, l.length ≤ nszK l
 | [] => by simp
 | k :: l => by
  have h1 := nsz_pos k; have h2 := nszK_len l; simp only [nszK, List.length_cons]; omega
theorem nszK_mem : ∀ {l : List S25} {k : S25}, k ∈ l → nsz k ≤ nszK l
 | a :: l, k, h => by
  simp only [nszK]; rcases List.mem_cons.1 h with rfl | h
  ·omega
  ·have := nszK_mem h; omega
theorem asz_len (l : List S47) : l.length ≤ (l.map fun a => 1 + a.f0.size + a.f1.size).sum := by
 induction l with
 | nil => simp
 | cons a l ih => simp only [List.length_cons, List.map_cons, List.sum_cons]; omega
theorem asz_mem {l : List S47} {a : S47} (h : a ∈ l) : 1 + a.f0.size + a.f1.size ≤ (l.map fun a => 1 + a.f0.size + a.f1.size).sum := by
 induction l with
 | nil => cases h
 | cons b l ih =>
  simp only [List.map_cons, List.sum_cons]; rcases List.mem_cons.1 h with rfl | h
  ·omega
  ·have := ih h; omega
theorem wrap64_of {x : Int} (h1 : -9223372036854775808 ≤ x) (h2 : x ≤ 9223372036854775807) : wrap64 x = x := by
 unfold wrap64; omega
theorem rd47_of (l : List S47) (i : Nat) (h : i < l.length) : rd_T47 l (i : Int) = l[i] := by simp [rd_T47, List.getD_eq_getElem?_getD, List.getElem?_eq_getElem h]
theorem rd25_of (l : List S25) (i : Nat) (h : i < l.length) : rd_T25 l (i : Int) = l[i] := by simp [rd_T25, List.getD_eq_getElem?_getD, List.getElem?_eq_getElem h]
theorem ba_toList_inj {x y : ByteArray} : x.toList = y.toList ↔ x = y := by
 constructor
 ·intro h; rw [ByteArray.toList_eq, ByteArray.toList_eq] at h; exact ByteArray.ext (Array.toList_inj.1 h)
 ·rintro rfl; rfl
theorem attr_ext {a b : S47} (h0 : a.f0 = b.f0) (h1 : a.f1 = b.f1) : a = b := by
 cases a; cases b
 cases h0; cases h1; rfl
theorem drop_eq_succ {α : Type} {l m : List α} {i : Nat} (h1 : i < l.length) (h2 : i < m.length) : l.drop i = m.drop i ↔ l[i] = m[i] ∧ l.drop (i + 1) = m.drop (i + 1) := by
 rw [List.drop_eq_getElem_cons h1, List.drop_eq_getElem_cons h2]; simp only [List.cons.injEq]
theorem sameAttrs_l0_ev (l m : List S47) (hlm : l.length = m.length) (hb : l.length ≤ 9223372036854775807) : ∀ (j i : Nat), l.length - i = j → i ≤ l.length → ∃ r, Ev (fun k => quillworkref08_SameAttrs.l0 k l m (i : Int)) r ∧ (r = true ↔ l.drop i = m.drop i) := by
 intro j; induction j with
 | zero =>
  intro i hj hi; have e : i = l.length := by omega
  subst e; refine ⟨true, ?_, ?_⟩
  ·refine Ev.step (f := fun _ => some true) (fun k => ?_) (Ev.now _); simp [quillworkref08_SameAttrs.l0]
  ·simp [hlm]
 | succ j ih =>
  intro i hj hi; have h1 : i < l.length := by omega
  have h2 : i < m.length := by omega
  have c1 : (i : Int) < (l.length : Int) := by omega
  have c2 : (0 : Int) ≤ (i : Int) := by omega
  have c3 : (i : Int) < (m.length : Int) := by omega
  obtain ⟨r, hr, hrt⟩ := ih (i + 1) (by omega) (by omega); have hw : wrap64 ((i : Int) + 1) = ((i + 1 : Nat) : Int) := wrap64_of (by omega) (by omega); by_cases heq : l[i] = m[i]
  ·refine ⟨r, Ev.step (fun k => ?_) hr, ?_⟩; ·simp only [quillworkref08_SameAttrs.l0, if_pos c1, if_pos c2, if_pos c3, rd47_of l i h1, rd47_of m i h2, heq, hw]; simp
   ·rw [hrt, drop_eq_succ h1 h2]; simp [heq]
  ·refine ⟨false, Ev.step (f := fun _ => some false) (fun k => ?_) (Ev.now _), ?_⟩
   ·simp only [quillworkref08_SameAttrs.l0, if_pos c1, if_pos c2, if_pos c3, rd47_of l i h1, rd47_of m i h2]; rw [if_pos]; have : ¬ (l[i].f0 = m[i].f0 ∧ l[i].f1 = m[i].f1) := fun h => heq (attr_ext h.1 h.2)
    by_cases q0 : l[i].f0 = m[i].f0
    ·have q1 : l[i].f1 ≠ m[i].f1 := fun q1 => this ⟨q0, q1⟩
     have : ¬ l[i].f1.toList = m[i].f1.toList := fun h => q1 (ba_toList_inj.1 h)
     simp [this]
    ·have : ¬ l[i].f0.toList = m[i].f0.toList := fun h => q0 (ba_toList_inj.1 h)
     simp [this]
   ·rw [drop_eq_succ h1 h2]; simp [heq]
theorem sameAttrs_ev (l m : List S47) (hb : l.length ≤ 9223372036854775807) : ∃ r, Ev (fun k => quillworkref08_SameAttrs.f k l m) r ∧ (r = true ↔ l = m) := by
 by_cases h : l.length = m.length
 ·obtain ⟨r, hr, hrt⟩ := sameAttrs_l0_ev l m h hb l.length 0 (by simp) (Nat.zero_le _); refine ⟨r, Ev.congr (fun k => ?_) hr, by simpa using hrt⟩; unfold quillworkref08_SameAttrs.f; rw [if_pos (by rw [h])]; rfl
 ·refine ⟨false, Ev.congr (f := fun _ => some false) (fun k => ?_) (Ev.now _), ?_⟩; ·unfold quillworkref08_SameAttrs.f; rw [if_neg (by omega)]
  ·simp only [Bool.false_eq_true, false_iff]; rintro rfl; exact h rfl
theorem node_ext {a b : S25} (h0 : a.f0 = b.f0) (h1 : a.f1 = b.f1) (h2 : a.f2 = b.f2) (h3 : a.f3 = b.f3) : a = b := by
 cases a; cases b
 cases h0; cases h1; cases h2; cases h3; rfl
def SameEv (n m : S25) : Prop := ∃ r, Ev (fun k => quillworkref08_SameNode.f k n.f0 n.f1 n.f2 n.f3 m.f0 m.f1 m.f2 m.f3) r ∧ (r = true ↔ n = m)
theorem same_l0_ev (n m : S25) (ih : ∀ k, k ∈ n.f3 → ∀ k2, SameEv k k2) (hlm : n.f3.length = m.f3.length) (hb : n.f3.length ≤ 9223372036854775807) : ∀ (j i : Nat), n.f3.length - i = j → i ≤ n.f3.length → ∃ r, Ev (fun k => quillworkref08_SameNode.l0 k (i : Int) n.f0 n.f1 n.f2 n.f3 m.f0 m.f1 m.f2 m.f3) r ∧ (r = true ↔ n.f3.drop i = m.f3.drop i) := by
 intro j; induction j with
 | zero =>
  intro i hj hi; have e : i = n.f3.length := by omega
  subst e; refine ⟨true, ?_, ?_⟩
  ·refine Ev.step (f := fun _ => some true) (fun k => ?_) (Ev.now _); simp [quillworkref08_SameNode.l0]
  ·simp [hlm]
 | succ j ihj =>
  intro i hj hi; have h1 : i < n.f3.length := by omega
  have h2 : i < m.f3.length := by omega
  have c1 : (i : Int) < (n.f3.length : Int) := by omega
  have c2 : (0 : Int) ≤ (i : Int) := by omega
  have c3 : (i : Int) < (m.f3.length : Int) := by omega
  obtain ⟨r, hr, hrt⟩ := ihj (i + 1) (by omega) (by omega); have hw : wrap64 ((i : Int) + 1) = ((i + 1 : Nat) : Int) := wrap64_of (by omega) (by omega); obtain ⟨q, hq, hqt⟩ := ih n.f3[i] (List.getElem_mem h1) m.f3[i]; cases q
  ·refine ⟨false, Ev.step (fun k => ?_) (Ev.bind hq (f := fun k t => if t = true then quillworkref08_SameNode.l0 k (wrap64 ((i : Int) + 1)) n.f0 n.f1 n.f2 n.f3 m.f0 m.f1 m.f2 m.f3 else some false) (Ev.congr (f := fun _ => some false) (fun k => rfl) (Ev.now _))), ?_⟩; ·simp only [quillworkref08_SameNode.l0, if_pos c1, if_pos c2, if_pos c3, rd25_of n.f3 i h1, rd25_of m.f3 i h2]
   ·rw [drop_eq_succ h1 h2, ← hqt]; simp
  ·refine ⟨r, Ev.step (fun k => ?_) (Ev.bind hq (f := fun k t => if t = true then quillworkref08_SameNode.l0 k (wrap64 ((i : Int) + 1)) n.f0 n.f1 n.f2 n.f3 m.f0 m.f1 m.f2 m.f3 else some false) (Ev.congr (fun k => by rw [if_pos rfl, hw]) hr)), ?_⟩; ·simp only [quillworkref08_SameNode.l0, if_pos c1, if_pos c2, if_pos c3, rd25_of n.f3 i h1, rd25_of m.f3 i h2]
   ·rw [hrt, drop_eq_succ h1 h2, ← hqt]; simp
theorem same_ev : ∀ (N : Nat) (n m : S25), nsz n ≤ N → N ≤ 9223372036854775807 → SameEv n m := by
 intro N; induction N with
 | zero => intro n m h; have := nsz_pos n; omega
 | succ N ih =>
  intro n m h hN; have hs := nsz_eq n; have hl1 := asz_len n.f1; have hl3 := nszK_len n.f3; have hj : ∀ (b : Bool), Ev (fun k => quillworkref08_SameNode.j0 k true n.f0 n.f1 n.f2 n.f3 m.f0 m.f1 m.f2 m.f3) false := fun b => Ev.step (f := fun _ => some false) (fun k => by simp [quillworkref08_SameNode.j0]) (Ev.now _)
  by_cases c0 : n.f0 = m.f0
  case neg =>
   refine ⟨false, Ev.step (fun k => ?_) (hj true), ?_⟩; ·simp only [quillworkref08_SameNode.f, if_neg c0]
   ·simp only [Bool.false_eq_true, false_iff]; rintro rfl; exact c0 rfl
  by_cases c2 : n.f2.toList = m.f2.toList
  case neg =>
   refine ⟨false, Ev.step (fun k => ?_) (hj true), ?_⟩; ·simp only [quillworkref08_SameNode.f, if_pos c0, if_neg c2]
   ·simp only [Bool.false_eq_true, false_iff]; rintro rfl; exact c2 rfl
  obtain ⟨q, hq, hqt⟩ := sameAttrs_ev n.f1 m.f1 (by omega); cases q
  case false =>
   refine ⟨false, Ev.step (fun k => ?_) (Ev.bind hq (f := fun k t => if t = true then quillworkref08_SameNode.j0 k ((n.f3.length : Int) != (m.f3.length : Int)) n.f0 n.f1 n.f2 n.f3 m.f0 m.f1 m.f2 m.f3 else quillworkref08_SameNode.j0 k true n.f0 n.f1 n.f2 n.f3 m.f0 m.f1 m.f2 m.f3) (Ev.congr (fun k => by rw [if_neg (by simp)]) (hj true))), ?_⟩; ·simp only [quillworkref08_SameNode.f, if_pos c0, if_pos c2]
   ·simp only [Bool.false_eq_true, false_iff]; rintro rfl; exact absurd (hqt.2 rfl) (by simp)
  have hq1 := hqt.1 rfl; by_cases c3 : n.f3.length = m.f3.length
  case neg =>
   have hc : ((n.f3.length : Int) != (m.f3.length : Int)) = true := by simp; omega
   refine ⟨false, Ev.step (fun k => ?_) (Ev.bind hq (f := fun k t => if t = true then quillworkref08_SameNode.j0 k ((n.f3.length : Int) != (m.f3.length : Int)) n.f0 n.f1 n.f2 n.f3 m.f0 m.f1 m.f2 m.f3 else quillworkref08_SameNode.j0 k true n.f0 n.f1 n.f2 n.f3 m.f0 m.f1 m.f2 m.f3) (Ev.congr (fun k => by rw [if_pos rfl, hc]) (hj true))), ?_⟩; ·simp only [quillworkref08_SameNode.f, if_pos c0, if_pos c2]
   ·simp only [Bool.false_eq_true, false_iff]; rintro rfl; exact c3 rfl
  have hc : ((n.f3.length : Int) != (m.f3.length : Int)) = false := by simp [c3]
  obtain ⟨r, hr, hrt⟩ := same_l0_ev n m (fun k hk k2 => ih k k2 (by have := nszK_mem hk; omega) (by omega)) c3 (by omega) n.f3.length 0 (by simp) (Nat.zero_le _); refine ⟨r, Ev.step (fun k => ?_) (Ev.bind hq (f := fun k t => if t = true then quillworkref08_SameNode.j0 k ((n.f3.length : Int) != (m.f3.length : Int)) n.f0 n.f1 n.f2 n.f3 m.f0 m.f1 m.f2 m.f3 else quillworkref08_SameNode.j0 k true n.f0 n.f1 n.f2 n.f3 m.f0 m.f1 m.f2 m.f3) (Ev.congr (fun k => by rw [if_pos rfl, hc]) (Ev.step (fun k => ?_) hr))), ?_⟩; ·simp only [quillworkref08_SameNode.f, if_pos c0, if_pos c2]
  ·simp [quillworkref08_SameNode.j0]
  ·rw [hrt]; simp only [List.drop_zero]; constructor
   ·intro h3; exact node_ext c0 hq1 (ba_toList_inj.1 c2) h3
   ·rintro rfl; rfl
def WeighEv (n : S25) : Prop := ∀ x : Int, 0 ≤ x → x ≤ 2500 → ∃ r : Int, Ev (fun k => quillworklaw16_weigh.f k n.f0 n.f1 n.f2 n.f3 x) r ∧ -1000 ≤ r ∧ r ≤ 2500
theorem weigh_l1_ev (n : S25) (ih : ∀ k, k ∈ n.f3 → WeighEv k) (hb : n.f3.length ≤ 9223372036854775807) : ∀ (j i : Nat) (x : Int), n.f3.length - i = j → i ≤ n.f3.length → -1000 ≤ x → x ≤ 2500 → ∃ r : Int, Ev (fun k => quillworklaw16_weigh.l1 k x (i : Int) n.f0 n.f1 n.f2 n.f3) r ∧ -1000 ≤ r ∧ r ≤ 2500 := by
 intro j; induction j with
 | zero =>
  intro i x hj hi h1 h2; have e : i = n.f3.length := by omega
  subst e; refine ⟨x, Ev.step (f := fun _ => some x) (fun k => ?_) (Ev.now _), h1, h2⟩; simp [quillworklaw16_weigh.l1]
 | succ j ihj =>
  intro i x hj hi h1 h2; have g1 : i < n.f3.length := by omega
  have c1 : (i : Int) < (n.f3.length : Int) := by omega
  have c2 : (0 : Int) ≤ (i : Int) := by omega
  have hw : wrap64 ((i : Int) + 1) = ((i + 1 : Nat) : Int) := wrap64_of (by omega) (by omega); by_cases hx : x ≥ 0
  ·obtain ⟨q, hq, hq1, hq2⟩ := ih n.f3[i] (List.getElem_mem g1) x hx h2; obtain ⟨r, hr, hr1, hr2⟩ := ihj (i + 1) q (by omega) (by omega) hq1 hq2; refine ⟨r, Ev.step (fun k => ?_) (Ev.bind hq (f := fun k t => quillworklaw16_weigh.l1 k t (wrap64 ((i : Int) + 1)) n.f0 n.f1 n.f2 n.f3) (Ev.congr (fun k => by rw [hw]) hr)), hr1, hr2⟩; simp only [quillworklaw16_weigh.l1, if_pos c1, if_pos hx, if_pos c2, rd25_of n.f3 i g1]
  ·refine ⟨x, Ev.step (f := fun _ => some x) (fun k => ?_) (Ev.now _), h1, h2⟩; simp only [quillworklaw16_weigh.l1, if_pos c1, if_neg hx]
theorem weigh_l0_ev (n : S25) (ih : ∀ k, k ∈ n.f3 → WeighEv k) (hb : n.f3.length ≤ 9223372036854775807) (hb1 : n.f1.length ≤ 9223372036854775807) (ht : n.f2.size ≤ 9000) (x : Int) (h1 : -1 ≤ x) (h2 : x ≤ 2500) : ∀ (j i : Nat), n.f1.length - i = j → i ≤ n.f1.length → ∃ r : Int, Ev (fun k => quillworklaw16_weigh.l0 k x (i : Int) n.f0 n.f1 n.f2 n.f3) r ∧ -1000 ≤ r ∧ r ≤ 2500 := by
 intro j; induction j with
 | zero =>
  intro i hj hi; have e : i = n.f1.length := by omega
  subst e; have hw1 : wrap64 ((n.f2.size : Int) / 64) = (n.f2.size : Int) / 64 := wrap64_of (by omega) (by omega); have hw2 : wrap64 (x - (n.f2.size : Int) / 64) = x - (n.f2.size : Int) / 64 := wrap64_of (by omega) (by omega); obtain ⟨r, hr, hr1, hr2⟩ := weigh_l1_ev n ih hb n.f3.length 0 (x - (n.f2.size : Int) / 64) (by simp) (Nat.zero_le _) (by omega) (by omega); refine ⟨r, Ev.step (fun k => ?_) hr, hr1, hr2⟩; simp only [quillworklaw16_weigh.l0, if_neg (Int.lt_irrefl _), hw1, hw2]; rfl
 | succ j ihj =>
  intro i hj hi; have g1 : i < n.f1.length := by omega
  have c1 : (i : Int) < (n.f1.length : Int) := by omega
  have c2 : (0 : Int) ≤ (i : Int) := by omega
  have hw : wrap64 ((i : Int) + 1) = ((i + 1 : Nat) : Int) := wrap64_of (by omega) (by omega); by_cases ha : ((n.f1[i].f0).size : Int) > 300
  ·refine ⟨-1, Ev.step (f := fun _ => some (-1)) (fun k => ?_) (Ev.now _), by omega, by omega⟩; simp only [quillworklaw16_weigh.l0, if_pos c1, if_pos c2, rd47_of n.f1 i g1, if_pos ha]
  ·by_cases hv : ((n.f1[i].f1).size : Int) > 1000
   ·refine ⟨-1, Ev.step (f := fun _ => some (-1)) (fun k => ?_) (Ev.now _), by omega, by omega⟩; simp only [quillworklaw16_weigh.l0, if_pos c1, if_pos c2, rd47_of n.f1 i g1, if_neg ha, if_pos hv]
   ·obtain ⟨r, hr, hr1, hr2⟩ := ihj (i + 1) (by omega) (by omega); refine ⟨r, Ev.step (fun k => ?_) hr, hr1, hr2⟩; simp only [quillworklaw16_weigh.l0, if_pos c1, if_pos c2, rd47_of n.f1 i g1, if_neg ha, if_neg hv, hw]
theorem weigh_ev : ∀ (N : Nat) (n : S25), nsz n ≤ N → N ≤ 9223372036854775807 → WeighEv n := by
 intro N; induction N with
 | zero => intro n h; have := nsz_pos n; omega
 | succ N ih =>
  intro n h hN x h1 h2; have hs := nsz_eq n; have hl1 := asz_len n.f1; have hl3 := nszK_len n.f3; have hw : wrap64 (x - 1) = x - 1 := wrap64_of (by omega) (by omega); have hj : Ev (fun k => quillworklaw16_weigh.j0 k (x - 1) true n.f0 n.f1 n.f2 n.f3) (-1) := Ev.step (f := fun _ => some (-1)) (fun k => by simp [quillworklaw16_weigh.j0]) (Ev.now _); by_cases ht : (n.f2.size : Int) > 9000
  ·refine ⟨-1, Ev.step (fun k => ?_) hj, by omega, by omega⟩; simp only [quillworklaw16_weigh.f, if_pos ht, hw]
  ·by_cases hl : (n.f1.length : Int) > 50
   ·refine ⟨-1, Ev.step (fun k => ?_) hj, by omega, by omega⟩; simp only [quillworklaw16_weigh.f, if_neg ht, hw, decide_eq_true hl]
   ·obtain ⟨r, hr, hr1, hr2⟩ := weigh_l0_ev n (fun k hk => ih k (by have := nszK_mem hk; omega) (by omega)) (by omega) (by omega) (by omega) (x - 1) (by omega) (by omega) n.f1.length 0 (by simp) (Nat.zero_le _); refine ⟨r, Ev.step (f := fun k => quillworklaw16_weigh.j0 k (x - 1) false n.f0 n.f1 n.f2 n.f3) (fun k => ?_) (Ev.step (fun k => ?_) hr), hr1, hr2⟩; ·simp only [quillworklaw16_weigh.f, if_neg ht, hw, decide_eq_false hl]
    ·simp [quillworklaw16_weigh.j0]
theorem heavy_ev (n : S25) (h : nsz n ≤ 9223372036854775807) : ∃ b : Bool, Ev (fun k => quillworklaw16_heavy.f k n.f0 n.f1 n.f2 n.f3) b := by
 obtain ⟨r, hr, _, _⟩ := weigh_ev _ n (Nat.le_refl _) h 2500 (by decide) (by decide); refine ⟨decide (r < 0), Ev.congr (fun k => ?_) (Ev.bind hr (f := fun _ t => some (decide (t < 0))) (Ev.now _))⟩; rfl
theorem Ev.and {α β : Type} {g : Nat → Option α} {f : Nat → Option β} {a : α} {b : β} (h : Ev g a) (h2 : Ev f b) : ∃ K, ∀ k, K ≤ k → g k = some a ∧ f k = some b := by
 obtain ⟨K, h⟩ := h; obtain ⟨L, h2⟩ := h2; exact ⟨max K L, fun k hk => ⟨h k (by omega), h2 k (by omega)⟩⟩
end Go.Proofs.YtbbikcmkcgoamaaDoor.Pp
namespace Go.Proofs.YtbbikcmkcgoamaaDoor.My
open Go.RowKit Go.Proofs.YtbbikcmkcgoamaaDoorW.PrintWords Go.Proofs.YtbbikcmkcgoamaaDoorW.PrintLast Go.Proofs.YtbbikcmkcgoamaaDoorW.PrintMore
theorem chain_heap (w : World) (os : List Obj) : (os.foldl World.alloc w).heap = w.heap ++ os.toArray := by
 induction os generalizing w with
 | nil => simp
 | cons o os ih => rw [List.foldl_cons, ih]; simp [World.alloc, -World.alloc_eq]
theorem chain_below (w : World) (os : List Obj) : Below w.heap.size w (os.foldl World.alloc w) := by
 suffices h : ∀ (v : World), Below w.heap.size w v → Below w.heap.size w (os.foldl World.alloc v) from h w (Below.refl _ _)
 induction os with
 | nil => exact fun v h => h
 | cons o os ih => exact fun v h => ih _ (h.alloc h.size _)
theorem chain_size (w : World) (os : List Obj) : (os.foldl World.alloc w).heap.size = w.heap.size + os.length := by rw [chain_heap]; simp
theorem chain_at (w : World) (os : List Obj) (k : Nat) : (os.foldl World.alloc w).heap[w.heap.size + k]? = os[k]? := by
 rw [chain_heap, Array.getElem?_append_right (by omega)]; simp
section
variable {P : Program} {ops : Array Oper} {rest : List Oper} {o : Oper} {a : Act} {Q : Exit → Act → World → Prop}
theorem chain_event (hgd : o.guard = none) {N : Tmp} (_hd : o.dst = some N) {w : World} (os : List Obj) {W : World} (hW : W = os.foldl World.alloc w) (v : Nat → Value) (ob : Obj)
 (hrun : ∀ (W' : World) (n : Nat), W'.heap.size = n → (execOp a.eval o).run P W' = .ok (.value (v n)) (W'.alloc ob))
 (h : ∀ W1, W1 = (os ++ [ob]).foldl World.alloc w → wpList P ops Q rest (a.put o.dst (v (w.heap.size + os.length))) W1) : wpList P ops Q (o :: rest) a W :=
 Kd.event_run hgd (hrun W _ (by rw [hW]; exact chain_size w os)) (h _ (by rw [hW]; simp))
theorem store_all_event (hgd : o.guard = none) (ty : TypeId) (x y : Operand) (ho : o.op = .store ty x y) {W : World} (g : Nat) (cs0 : Array Value) (t : TypeId) (cells : Array Value) (hx : a.eval x = .pointer (some ⟨g, 0, none⟩)) (hy : a.eval y = .agg cells)
 (hb : W.heap[g]? = some (.cells cs0 t (0, 0))) (hs : cells.size = cs0.size) (hi : (P.info? ty).map (·.size) = some cells.size) (h1 : cells.all (·.oneCell') = true)
 (h : ∀ W1, W1.heap[g]? = some (.cells cells t (0, 0)) → (∀ k, k ≠ g → W1.heap[k]? = W.heap[k]?) → (∀ B w0, Below B w0 W → B ≤ g → Below B w0 W1) → wpList P ops Q rest (a.put o.dst undef) W1) : wpList P ops Q (o :: rest) a W := by
 have hth : W.there g 0 cells.size := fun j hj => ⟨by rw [cell_of_row W g _ cs0 t (0, 0) hb]; simp; omega, blk_frozen hb _⟩
 refine wpList_store_mid hgd ty x y ho g 0 cells hx hy hth hi h1 (h _ ?_ (fun k hk => setCells_far _ _ k hk) (fun B w0 hB hg => ?_))
 ·obtain ⟨cur', h3, h4, h5⟩ := setCells_row cells.toList 0 W cs0 hb (by simp; omega)
  have h6 : cur' = cells := by
   apply Array.toList_inj.1
   rw [h5]; simp [hs]
  rw [h3, h6]
 ·obtain ⟨s1, s2, s3, s4⟩ := setCells_same g cells.toList 0 W; exact hB.trans ⟨s1, s2, s3, by rw [s4]; exact Nat.le_refl _, fun k hk => setCells_far _ _ k (by omega)⟩
end
end Go.Proofs.YtbbikcmkcgoamaaDoor.My
namespace Go.Proofs.YtbbikcmkcgoamaaDoor.Pp
open Go.RowKit Go.Proofs.YtbbikcmkcgoamaaDoorW.PrintWords Go.Proofs.YtbbikcmkcgoamaaDoorW.PrintLast Go.Proofs.YtbbikcmkcgoamaaDoorW.PrintMore Go.Proofs.YtbbikcmkcgoamaaDoor.My
def runesFrom (s : ByteArray) : Nat → Nat → List Int
 | 0, _ => []
 | n + 1, i => if i < s.size then ((Utf8.decode s i).1 : Int) :: runesFrom s n (i + (Utf8.decode s i).2) else []
def runesOf (s : ByteArray) : List Int := runesFrom s s.size 0
def anewB (s : ByteArray) : ByteArray := runesBytes (runesOf s)
theorem conv_runes (s : ByteArray) : ∀ (n i : Nat) (acc : Array Value), Conv.runesFrom s n i acc = acc ++ ((runesFrom s n i).map (Value.int .i32)).toArray
 | 0, _, acc => by simp [Conv.runesFrom, runesFrom]
 | n + 1, i, acc => by
  unfold Conv.runesFrom runesFrom; split
  ·generalize Utf8.decode s i = p; obtain ⟨r, wd⟩ := p; simp only; rw [conv_runes s n]; simp
  ·simp
theorem runesFrom_le (s : ByteArray) : ∀ n i, (runesFrom s n i).length ≤ n
 | 0, _ => by simp [runesFrom]
 | n + 1, i => by
  unfold runesFrom; split
  ·have := runesFrom_le s n (i + (Utf8.decode s i).2); simp
   omega
  ·simp
theorem runesOf_le (s : ByteArray) : (runesOf s).length ≤ s.size := runesFrom_le s _ _
section
variable {P : Program} {ops : Array Oper} {rest : List Oper} {o : Oper} {a : Act} {Q : Exit → Act → World → Prop}
theorem runes_event (hgd : o.guard = none) {src dst e : TypeId} {x : Operand} (ho : o.op = .convert src dst x) {W : World} (s : ByteArray) (hx : a.eval x = .string s)
 (hs : P.underlying src = some .string) (hd : P.underlying dst = some (.slice e)) (he : P.underlying e = some (.int .i32)) (hl : s.size ≤ 70368744177664)
 (h : ∀ (c : Nat) (w1 : World), Kd.R (Kd.int .i32) e w1 W.heap.size (fun _ => True) (.slice (some ⟨W.heap.size, 0, none⟩) (runesOf s).length c) (runesOf s) → Below W.heap.size W w1 → wpList P ops Q rest (a.put o.dst (.slice (some ⟨W.heap.size, 0, none⟩) (runesOf s).length c)) w1) : wpList P ops Q (o :: rest) a W := by
 have sz1 : (Kd.int .i32).sz = 1 := rfl; have e1 : Conv.runesFrom s s.size 0 #[] = ((runesOf s).map (Value.int .i32)).toArray := by rw [conv_runes]; simp [runesOf]
 have hle := runesOf_le s; have hsz : (Conv.runesFrom s s.size 0 #[]).size = (runesOf s).length := by rw [e1]; simp
 have hr := run_runes_of_string (P := P) W src dst e s hs hd he (by omega); rw [hsz] at hr; have hg := grownCap_ge W (runesOf s).length 0 e
 have hg2 : grownCap W (runesOf s).length 0 e ≤ maxLen := by
  have := Nat.mod_lt (W.tape W.drawn (.appendCap (runesOf s).length 0 e)) (show 0 < 2 ^ 63 - (runesOf s).length by omega); show (runesOf s).length + (W.tape W.drawn (.appendCap (runesOf s).length 0 e)) % (2 ^ 63 - (runesOf s).length) ≤ maxLen
  unfold maxLen; omega
 have hrun : (execOp a.eval o).run P W = .ok (.value (.slice (some ⟨W.heap.size, 0, none⟩) (runesOf s).length (grownCap W (runesOf s).length 0 e))) (W.drew.alloc (.cells (Conv.runesFrom s s.size 0 #[] ++ Array.replicate (grownCap W (runesOf s).length 0 e - (runesOf s).length) (.int .i32 0)) e)) := by
  unfold execOp; simp only [ho, hx]; rw [Sem.run_bind, hr]; rfl
 refine Kd.event_run hgd hrun (h _ _ ?_ (((Below.refl _ _).drew).alloc (Nat.le_refl _) _)); refine ⟨fun _ _ => trivial, (runesOf s).map (Value.int .i32), ⟨by simp [sz1], .inr ⟨W.heap.size, _, _, rfl, Nat.le_refl _, blk_new W.drew _, hg, hg2, ?_, ?_⟩⟩, ⟨by simp [sz1], fun j p hj => ?_⟩⟩; ·simp [hsz, sz1]; omega
 ·rw [e1, sz1]; simp
 ·show List.take 1 (List.drop (j * 1) _) = [Value.int .i32 p]
  obtain ⟨hjl, hp⟩ := List.getElem?_eq_some_iff.1 hj; rw [Nat.mul_one, List.drop_eq_getElem_cons (by simpa using hjl)]; simp [hp]
theorem string_event (hgd : o.guard = none) {src dst e : TypeId} {x : Operand} (ho : o.op = .convert src dst x) {W : World} {A : Option Addr} {n c : Nat} (rs : List Int) (hx : a.eval x = .slice A n c)
 (hs : P.underlying src = some (.slice e)) (he : P.underlying e = some (.int .i32)) (hd : P.underlying dst = some .string) (hC : Kd.C (Kd.int .i32) W A n rs)
 (h : wpList P ops Q rest (a.put o.dst (.string (runesBytes rs))) W) : wpList P ops Q (o :: rest) a W := by
 obtain ⟨h1, h2, h3⟩ := hC
 have hr : (convert src dst (.slice A n c)).run P W = .ok (.string (runesBytes rs)) W := by
  rcases Nat.eq_zero_or_pos n with h0 | h0
  ·subst h0; have : rs = [] := List.eq_nil_of_length_eq_zero h1; subst this; cases A with
   | none => exact run_convert_runes_nil W src dst e _ _ hs he hd
   | some ad => exact run_convert_runes W src dst e ad 0 c [] (Nat.le_refl _) hs he hd (fun j hj => absurd hj (by simp))
  ·obtain ⟨ad, rfl, hc⟩ := h3 h0
   have := run_convert_runes (P := P) W src dst e ad n c rs (by omega) hs he hd (fun j hj => by
    obtain ⟨cc, _, hcc, hce⟩ := hc j rs[j] (List.getElem?_eq_getElem hj); obtain rfl : cc = [.int .i32 rs[j]] := hcc; have := hce 0 _ rfl; rw [List.getD_eq_getElem?_getD, List.getElem?_eq_getElem hj]; simpa [Kd.int, Kd.scalar] using this)
   rwa [← h1, List.take_length, h1] at this
 have hrun : (execOp a.eval o).run P W = .ok (.value (.string (runesBytes rs))) W := by
  unfold execOp; simp only [ho, hx]; rw [Sem.run_bind, hr]; rfl
 exact Kd.event_run hgd hrun h
end
def quillworkref08_Anew.f (a0 : ByteArray) : Option ByteArray := if a0.size ≤ 70368744177664 then some (anewB a0) else none
set_option maxRecDepth 100000 in
theorem quillworkref08_Anew.calls (a0 : ByteArray) (r : ByteArray) (w : World) (h : quillworkref08_Anew.f a0 = some r) : Calls Tryd.prog 31 #[.string a0] w fun e w' => e = .returned (.string r) ∧ Below w.heap.size w w' := by
 unfold quillworkref08_Anew.f at h; split at h
 ·rename_i hl
  obtain rfl := Option.some.inj h; go_enter Tryd.func31, Tryd.ntmps31
  go_wp2_with (first | ((with_reducible refine gate_dst (N := 4) rfl ?_); refine runes_event rfl rfl a0 rfl Tryd.underlying9 Tryd.underlying71 Tryd.underlying21 hl ?_; intro c w1 hR hb; have HR := Aside0.mk hR; have HB := Aside0.mk hb; clear hR hb) | ((with_reducible refine gate_dst (N := 5) rfl ?_); go_must (refine string_event rfl rfl (runesOf a0) rfl Tryd.underlying71 Tryd.underlying21 Tryd.underlying9 ?hC ?_); (case hC => obtain ⟨A, c', he, _, hC⟩ := Kd.R_reads HR.out; cases he; exact hC)))
  go_ret; exact ⟨rfl, HB.out⟩
 ·exact absurd h (by simp)
def quillworkref01_Runes.f (a0 : ByteArray) : Option (List Int) := if a0.size ≤ 70368744177664 then some (runesOf a0) else none
set_option maxRecDepth 100000 in
theorem quillworkref01_Runes.calls (a0 : ByteArray) (r : List Int) (w : World) (h : quillworkref01_Runes.f a0 = some r) : Calls Tryd.prog 64 #[.string a0] w fun e w' => ∃ v0_ : Value, e = .returned v0_ ∧ Kd.R (Kd.int .i32) 21 w' w.heap.size (fun _ => True) v0_ r ∧ Below w.heap.size w w' := by
 unfold quillworkref01_Runes.f at h; split at h
 ·rename_i hl
  obtain rfl := Option.some.inj h; go_enter Tryd.func64, Tryd.ntmps64
  go_wp2_with (first | ((with_reducible refine gate_dst (N := 4) rfl ?_); refine runes_event rfl rfl a0 rfl Tryd.underlying9 Tryd.underlying71 Tryd.underlying21 hl ?_; intro c w1 hR hb; have HR := Aside0.mk hR; have HB := Aside0.mk hb; clear hR hb))
  go_ret; exact ⟨_, rfl, HR.out, HB.out⟩
 ·exact absurd h (by simp)
end Go.Proofs.YtbbikcmkcgoamaaDoor.Pp
namespace Go.Proofs.YtbbikcmkcgoamaaDoor.Pp
open Go.RowKit Go.Proofs.YtbbikcmkcgoamaaDoorW.PrintWords Go.Proofs.YtbbikcmkcgoamaaDoorW.PrintLast Go.Proofs.YtbbikcmkcgoamaaDoorW.PrintMore Go.Proofs.YtbbikcmkcgoamaaDoor.My
theorem width_pos (s : ByteArray) (pos : Nat) (h : pos < s.size) : 1 ≤ (Utf8.decode s pos).2 := by
 by_cases ha : (s[pos]'h).toNat < 128
 ·rw [decode_ascii s pos h ha]; exact Nat.le_refl _
 ·exact (decode_high s pos h (by omega)).2
def nameBad (i : Nat) (c : Int) : Bool := !(decide (97 ≤ c) && decide (c ≤ 122)) && (decide (i = 0) || (decide (c < 48) || decide (c > 57)) && decide (c ≠ 45))
def nameFrom (s : ByteArray) : Nat → Nat → Bool
 | 0, _ => true
 | n + 1, i => if i < s.size then (if nameBad i (Utf8.decode s i).1 then false else nameFrom s n (i + (Utf8.decode s i).2)) else true
def nameOk (s : ByteArray) : Bool := decide (1 ≤ s.size) && decide (s.size ≤ 16) && nameFrom s s.size 0
def attrs_Name.f (a0 : ByteArray) : Option Bool := some (nameOk a0)
theorem nameFrom_end (s : ByteArray) (n pos : Nat) (h : ¬ pos < s.size) : nameFrom s n pos = true := by
 cases n with
 | zero => rfl
 | succ f => simp [nameFrom, h]
set_option maxHeartbeats 4000000 in
set_option maxRecDepth 100000 in
theorem attrs_Name.calls (a0 : ByteArray) (r : Bool) (w : World) (h : attrs_Name.f a0 = some r) : Calls Tryd.prog 46 #[.string a0] w fun e w' => e = .returned (.bool r) ∧ Below w.heap.size w w' := by
 obtain rfl := Option.some.inj h; unfold nameOk; by_cases h1 : a0.size < 1
 ·have e1 : decide (1 ≤ a0.size) = false := decide_eq_false (by omega); rw [e1]; have HX := Aside0.mk e1; clear e1; have b1 : ((a0.size : Int) < 1) := by omega
  go_enter Tryd.func46, Tryd.ntmps46
  go_wp2; go_ret; exact ⟨rfl, Below.refl _ _⟩
 by_cases h2 : 16 < a0.size
 ·have e1 : decide (a0.size ≤ 16) = false := decide_eq_false (by omega); rw [e1]; have HX := Aside0.mk e1; clear e1; have b1 : ¬ ((a0.size : Int) < 1) := by omega
  have b2 : (16 : Int) < (a0.size : Int) := by omega
  go_enter Tryd.func46, Tryd.ntmps46
  go_wp2; go_ret; exact ⟨by simp, Below.refl _ _⟩
 have e1 : decide (1 ≤ a0.size) = true := decide_eq_true (by omega); have e2 : decide (a0.size ≤ 16) = true := decide_eq_true (by omega); rw [e1, e2]; simp only [Bool.true_and]; clear e1 e2; have b1 : (1 : Int) ≤ (a0.size : Int) := by omega
 have b2 : (a0.size : Int) ≤ 16 := by omega
 clear h1 h2; obtain ⟨R, hR⟩ : ∃ R, R = nameFrom a0 a0.size 0 := ⟨_, rfl⟩; rw [← hR]; have HR := Aside0.mk hR.symm; clear hR; go_enter Tryd.func46, Tryd.ntmps46
 go_wp2; go_loopw [] (fun wr => ∃ (pos fuel : Nat), wr.heap[w.heap.size]? = some (.stringIter a0 pos) ∧ Below w.heap.size w wr ∧ Aside0 (nameFrom a0 fuel pos = R) ∧ a0.size ≤ pos + fuel) (fun wr => a0.size - wr.iterPos w.heap.size)
 case atStart =>
  refine ⟨0, a0.size, ?_, (Below.refl _ w).alloc (Nat.le_refl _) _, HR, by omega⟩; exact World.iter_heap w a0 0
 case round =>
  obtain ⟨pos, fuel, hit, hbw, hacc, hfu⟩ := hrel; by_cases hp : pos < a0.size
  ·have hnx : ∀ ty, (Instr.next (.pointer (some ⟨w.heap.size, 0, none⟩)) true ty).run Tryd.prog wr = _ := fun ty => Lib.run_next_any_at wr w.heap.size a0 pos ty hit hp
   have hwd := width_pos a0 pos hp; have hd1 := decode_le a0 pos; have HIT := Aside0.mk (Lib.iterAt_heap wr w.heap.size a0 pos (pos + (Utf8.decode a0 pos).2) hit); have HB := Aside0.mk (Lib.below_iterAt hbw (k := w.heap.size) (Nat.le_refl _) a0 (pos + (Utf8.decode a0 pos).2)); obtain ⟨f, rfl⟩ : ∃ f, fuel = f + 1 := ⟨fuel - 1, by omega⟩; have HA := Aside0.mk (show (if nameBad pos (Utf8.decode a0 pos).1 then false else nameFrom a0 f (pos + (Utf8.decode a0 pos).2)) = R by have := hacc.out; simpa [nameFrom, hp] using this); have HI0 := Aside0.mk hit; clear hacc hbw; generalize hdc : Utf8.decode a0 pos = dc at *; obtain ⟨c, wd⟩ := dc; have HD := Aside0.mk hdc; clear hdc; simp only at *; generalize wr.iterAt w.heap.size a0 (pos + wd) = W1 at *; clear hit hd1
   have fin : ∀ (b : Bool), nameBad pos c = b → Aside0 (b = true → R = false) ∧ Aside0 (b = false → nameFrom a0 f (pos + wd) = R) := by
    rintro b hb; have hr := HA.out; rw [hb] at hr; exact ⟨⟨fun h => by rw [if_pos h] at hr; exact hr.symm⟩, ⟨fun h => by rw [if_neg (by simp [h])] at hr; exact hr⟩⟩
   clear HA; have HF := Aside0.mk fin; clear fin; have ways : (97 ≤ (c : Int) ∧ (c : Int) ≤ 122) ∨ (((c : Int) < 97 ∨ (97 ≤ (c : Int) ∧ 48 ≤ (c : Int) ∧ decide ((c : Int) ≤ 122) = false)) ∧ (((pos : Int) == 0) = true ∨ (((pos : Int) == 0) = false ∧ (((c : Int) < 48 ∧ ((c : Int) != 45) = false) ∨ ((c : Int) < 48 ∧ ((c : Int) != 45) = true) ∨ (48 ≤ (c : Int) ∧ (c : Int) ≤ 57) ∨ (57 < (c : Int) ∧ ((c : Int) != 45) = true))))) := by simp; omega
   rcases ways with ⟨k1, k2⟩ | ⟨k1 | ⟨k0, k6, k1⟩, k3 | ⟨k3, ⟨k4, k5⟩ | ⟨k4, k5⟩ | ⟨k4, k5⟩ | ⟨k4, k5⟩⟩⟩
   all_goals
    cases hbv : nameBad pos c
    all_goals first
    | (exfalso; simp at k1 k3 k5; simp [nameBad] at hbv; omega)
    | (exfalso; simp at k1 k3; simp [nameBad] at hbv; omega)
    | (exfalso; simp at k3 k5; simp [nameBad] at hbv; omega)
    | (exfalso; simp at k3; simp [nameBad] at hbv; omega)
    | (exfalso; simp [nameBad] at hbv; omega)
    | (obtain ⟨hr, _⟩ := HF.out _ hbv
       have hr' := hr.out rfl; clear HF hr hbv; subst hr'; go_wp2; go_ret; exact ⟨rfl, HB.out⟩)
    | (obtain ⟨_, hr⟩ := HF.out _ hbv
       have HR2 := Aside0.mk (hr.out rfl); clear HF hr hbv; go_wp2; go_roundw
       case rel => exact ⟨_, f, HIT.out, HB.out, HR2, by omega⟩
       case measure => (have h0 := HI0.out; have h1 := HIT.out; simp only [World.iterPos, h1, h0]; omega))
  ·have hnx : ∀ ty, (Instr.next (.pointer (some ⟨w.heap.size, 0, none⟩)) true ty).run Tryd.prog wr = _ := fun ty => Lib.run_next_end_at wr w.heap.size a0 pos ty hit hp
   have hr := hacc.out; rw [nameFrom_end a0 fuel pos hp] at hr; subst hr; go_wp2; go_ret; exact ⟨rfl, hbw⟩
end Go.Proofs.YtbbikcmkcgoamaaDoor.Pp
namespace Go.Proofs
open Go.Shelf
def Tryd.lays196_ren : Go.Shelf.Ren := ⟨fun | 196 => 61 | 259 => 71 | n => n, fun | 9 => 9 | 4 => 4 | 3 => 3 | 5 => 5 | 12 => 12 | 119 => 101 | 0 => 0 | 46 => 95 | 139 => 104 | 138 => 103 | 53 => 106 | n => n, fun | 3 => 0 | 4 => 1 | n => n⟩
theorem Tryd.lays196 : Go.Proofs.Lays.n196 Tryd.prog Tryd.lays196_ren := {
 mixed := by kernel_rfl
 f196 := Tryd.func61.trans (congrArg some (by kernel_rfl))
 f259 := Tryd.func71.trans (congrArg some (by kernel_rfl))
 t0 := Tryd.underlying0
 a0 := Tryd.isAgg0
 z0 := Tryd.sizeOf0
 v0 := Tryd.zeroValue0
 t3 := Tryd.underlying3
 a3 := Tryd.isAgg3
 z3 := Tryd.sizeOf3
 v3 := Tryd.zeroValue3
 t4 := Tryd.underlying4
 a4 := Tryd.isAgg4
 z4 := Tryd.sizeOf4
 v4 := Tryd.zeroValue4
 t5 := Tryd.underlying5
 a5 := Tryd.isAgg5
 z5 := Tryd.sizeOf5
 v5 := Tryd.zeroValue5
 t9 := Tryd.underlying9
 a9 := Tryd.isAgg9
 z9 := Tryd.sizeOf9
 v9 := Tryd.zeroValue9
 t12 := Tryd.underlying12
 a12 := Tryd.isAgg12
 z12 := Tryd.sizeOf12
 v12 := Tryd.zeroValue12
 t46 := Tryd.underlying95
 a46 := Tryd.isAgg95
 z46 := Tryd.sizeOf95
 v46 := Tryd.zeroValue95
 t53 := Tryd.underlying106
 a53 := Tryd.isAgg106
 z53 := Tryd.sizeOf106
 v53 := Tryd.zeroValue106
 t119 := Tryd.underlying101
 a119 := Tryd.isAgg101
 z119 := Tryd.sizeOf101
 t138 := Tryd.underlying103
 a138 := Tryd.isAgg103
 z138 := Tryd.sizeOf103
 v138 := Tryd.zeroValue103
 t139 := Tryd.underlying104
 a139 := Tryd.isAgg104
 z139 := Tryd.sizeOf104
 v139 := Tryd.zeroValue104
 g3 := by kernel_rfl
 g4 := by kernel_rfl }
def Tryd.lays160_ren : Go.Shelf.Ren := ⟨fun | 160 => 45 | 232 => 54 | 231 => 53 | 227 => 55 | 234 => 57 | 233 => 56 | 236 => 59 | 235 => 58 | 228 => 66 | 271 => 69 | 151 => 68 | 197 => 67 | 120 => 75 | 152 => 74 | 260 => 73 | 137 => 77 | 119 => 76 | 224 => 78 | 225 => 79 | 217 => 80 | 266 => 81 | n => n, fun | 9 => 9 | 4 => 4 | 3 => 3 | 5 => 5 | 117 => 87 | 116 => 86 | 0 => 0 | 124 => 90 | 21 => 21 | 105 => 96 | 46 => 95 | 119 => 101 | 139 => 104 | 138 => 103 | n => n, fun | 3 => 0 | 4 => 1 | n => n⟩
theorem Tryd.lays160 : Go.Proofs.Lays.n160 Tryd.prog Tryd.lays160_ren := {
 mixed := by kernel_rfl
 f119 := Tryd.func76.trans (congrArg some (by kernel_rfl))
 f120 := Tryd.func75.trans (congrArg some (by kernel_rfl))
 f137 := Tryd.func77.trans (congrArg some (by kernel_rfl))
 f151 := Tryd.func68.trans (congrArg some (by kernel_rfl))
 f152 := Tryd.func74.trans (congrArg some (by kernel_rfl))
 f160 := Tryd.func45.trans (congrArg some (by kernel_rfl))
 f197 := Tryd.func67.trans (congrArg some (by kernel_rfl))
 f217 := Tryd.func80.trans (congrArg some (by kernel_rfl))
 f224 := Tryd.func78.trans (congrArg some (by kernel_rfl))
 f225 := Tryd.func79.trans (congrArg some (by kernel_rfl))
 f227 := Tryd.func55.trans (congrArg some (by kernel_rfl))
 f228 := Tryd.func66.trans (congrArg some (by kernel_rfl))
 f231 := Tryd.func53.trans (congrArg some (by kernel_rfl))
 f232 := Tryd.func54.trans (congrArg some (by kernel_rfl))
 f233 := Tryd.func56.trans (congrArg some (by kernel_rfl))
 f234 := Tryd.func57.trans (congrArg some (by kernel_rfl))
 f235 := Tryd.func58.trans (congrArg some (by kernel_rfl))
 f236 := Tryd.func59.trans (congrArg some (by kernel_rfl))
 f260 := Tryd.func73.trans (congrArg some (by kernel_rfl))
 f266 := Tryd.func81.trans (congrArg some (by kernel_rfl))
 f271 := Tryd.func69.trans (congrArg some (by kernel_rfl))
 t0 := Tryd.underlying0
 a0 := Tryd.isAgg0
 z0 := Tryd.sizeOf0
 v0 := Tryd.zeroValue0
 t3 := Tryd.underlying3
 a3 := Tryd.isAgg3
 z3 := Tryd.sizeOf3
 v3 := Tryd.zeroValue3
 t4 := Tryd.underlying4
 a4 := Tryd.isAgg4
 z4 := Tryd.sizeOf4
 v4 := Tryd.zeroValue4
 t5 := Tryd.underlying5
 a5 := Tryd.isAgg5
 z5 := Tryd.sizeOf5
 v5 := Tryd.zeroValue5
 t9 := Tryd.underlying9
 a9 := Tryd.isAgg9
 z9 := Tryd.sizeOf9
 v9 := Tryd.zeroValue9
 t21 := Tryd.underlying21
 a21 := Tryd.isAgg21
 z21 := Tryd.sizeOf21
 v21 := Tryd.zeroValue21
 t46 := Tryd.underlying95
 a46 := Tryd.isAgg95
 z46 := Tryd.sizeOf95
 v46 := Tryd.zeroValue95
 t105 := Tryd.underlying96
 a105 := Tryd.isAgg96
 z105 := Tryd.sizeOf96
 v105 := Tryd.zeroValue96
 t116 := Tryd.underlying86
 a116 := Tryd.isAgg86
 z116 := Tryd.sizeOf86
 t117 := Tryd.underlying87
 a117 := Tryd.isAgg87
 z117 := Tryd.sizeOf87
 v117 := Tryd.zeroValue87
 t119 := Tryd.underlying101
 a119 := Tryd.isAgg101
 z119 := Tryd.sizeOf101
 t124 := Tryd.underlying90
 a124 := Tryd.isAgg90
 z124 := Tryd.sizeOf90
 v124 := Tryd.zeroValue90
 t138 := Tryd.underlying103
 a138 := Tryd.isAgg103
 z138 := Tryd.sizeOf103
 v138 := Tryd.zeroValue103
 t139 := Tryd.underlying104
 a139 := Tryd.isAgg104
 z139 := Tryd.sizeOf104
 v139 := Tryd.zeroValue104
 g3 := by kernel_rfl
 g4 := by kernel_rfl }
def Tryd.lays242_ren : Go.Shelf.Ren := ⟨fun | 242 => 43 | 278 => 52 | n => n, fun | 37 => 30 | 21 => 21 | 51 => 83 | 4 => 4 | 5 => 5 | 46 => 95 | n => n, fun | n => n⟩
theorem Tryd.lays242 : Go.Proofs.Lays.n242 Tryd.prog Tryd.lays242_ren := {
 mixed := by kernel_rfl
 f242 := Tryd.func43.trans (congrArg some (by kernel_rfl))
 f278 := Tryd.func52.trans (congrArg some (by kernel_rfl))
 t4 := Tryd.underlying4
 a4 := Tryd.isAgg4
 z4 := Tryd.sizeOf4
 v4 := Tryd.zeroValue4
 t5 := Tryd.underlying5
 a5 := Tryd.isAgg5
 z5 := Tryd.sizeOf5
 v5 := Tryd.zeroValue5
 t21 := Tryd.underlying21
 a21 := Tryd.isAgg21
 z21 := Tryd.sizeOf21
 v21 := Tryd.zeroValue21
 t37 := Tryd.underlying30
 a37 := Tryd.isAgg30
 z37 := Tryd.sizeOf30
 v37 := Tryd.zeroValue30
 t46 := Tryd.underlying95
 a46 := Tryd.isAgg95
 z46 := Tryd.sizeOf95
 v46 := Tryd.zeroValue95
 t51 := Tryd.underlying83
 a51 := Tryd.isAgg83
 z51 := Tryd.sizeOf83
 v51 := Tryd.zeroValue83 }
end Go.Proofs
namespace Go.Proofs.YtbbikcmkcgoamaaDoor.Bld
open Go.RowKit Go.Shelf
abbrev PT : TypeId := 40
abbrev BT : TypeId := 38
theorem infoByte : (Tryd.prog.info? 5).map (fun i => (i.zero, i.size, i.bytes)) = some (some (.int .u8 0), 1, 1) := by kernel_rfl
theorem sizeBuilder : (Tryd.prog.info? BT).map (·.size) = some 2 := by kernel_rfl
theorem liesBuilder : liesAt Tryd.prog Tryd.prog.depth PT (2 / Tryd.prog.cellsOf PT) 0 BT 1 = true := by kernel_rfl
theorem neB5 : PT ≠ 5 := by decide
def Wrote (B b : Nat) (bs : List Value) (w w' : World) : Prop := Lib.BuilderAt PT 5 B b (.pointer (some ⟨b, 0, none⟩)) bs w' ∧ Below B w w' ∧ Lib.OthersKept 5 (some b) w w'
set_option maxHeartbeats 1000000 in
set_option maxRecDepth 100000 in
theorem copyCheck_used (b : Nat) (w : World) (h0 : w.cell? ⟨b, 0, none⟩ = some (.pointer (some ⟨b, 0, none⟩))) :
 Calls Tryd.prog 37 #[.pointer (some ⟨b, 0, none⟩)] w fun e w' => e = .returned (.tuple #[]) ∧ w' = w := by
 obtain ⟨j, hj, _⟩ := Option.map_eq_some_iff.1 sizeBuilder; go_enter Tryd.func37, Tryd.ntmps37
 go_wp2; rw [Lib.run_neq_ptr_same w _ Tryd.underlying36 hj]; go_wp2; go_end0
 exact ⟨rfl, rfl⟩
set_option maxHeartbeats 1000000 in
set_option maxRecDepth 100000 in
theorem copyCheck_fresh (b : Nat) (w : World) (h0 : w.cell? ⟨b, 0, none⟩ = some (.pointer none)) (hsh : w.shape? b = some (PT, 2)) (hfz : w.frozen? ⟨b, 0, none⟩ = false) :
 Calls Tryd.prog 37 #[.pointer (some ⟨b, 0, none⟩)] w fun e w' => e = .returned (.tuple #[]) ∧ w' = w.setCell ⟨b, 0, none⟩ (.pointer (some ⟨b, 0, none⟩)) := by
 obtain ⟨j, hj, hjs⟩ := Option.map_eq_some_iff.1 sizeBuilder; go_enter Tryd.func37, Tryd.ntmps37
 go_wp2; rw [Lib.run_to_unsafe w ⟨b, 0, none⟩ Tryd.underlying36 Tryd.underlying78 hj (by rw [hjs]; decide) hsh (Nat.zero_lt_succ 1)]; simp only [Result.andThen]; rw [Oper.upon_value]; go_wp2; rw [run_callFunc_extern Tryd.func44 (by kernel_rfl) (by kernel_rfl) (by kernel_rfl) (e := Extern.AbiNoEscape.same) (by kernel_rfl)]; rw [Lib.run_noEscape]; simp only [Result.andThen]; rw [Oper.upon_value]; go_wp2; rw [Lib.run_from_unsafe w ⟨b, 0, none⟩ Tryd.underlying78 Tryd.underlying36 hj hsh liesBuilder]; simp only [Result.andThen]; rw [Oper.upon_value]; go_wp2; go_end0
 exact ⟨rfl, rfl⟩
theorem copyCheck (B b : Nat) (bs : List Value) (w : World) (h : Lib.IsBuilder PT 5 B b bs w) :
 Calls Tryd.prog 37 #[.pointer (some ⟨b, 0, none⟩)] w fun e w' => e = .returned (.tuple #[]) ∧ Wrote B b bs w w' := by
 rcases h with h | h
 ·refine (copyCheck_fresh b w h.cell0 h.shape h.frozen0).mono ?_; rintro e w' ⟨rfl, rfl⟩; exact ⟨rfl, h.used _, (Below.refl B w).setCell (p := ⟨b, 0, none⟩) h.1 _, (Lib.OthersKept.refl _ _ w).setCell ⟨b, 0, none⟩ rfl _⟩
 ·refine (copyCheck_used b w h.cell0).mono ?_; rintro e w' ⟨rfl, rfl⟩; exact ⟨rfl, h, Below.refl B _, Lib.OthersKept.refl _ _ _⟩
theorem own_kind {w : World} {B n : Nat} {e : TypeId} {v : Value} {xs : List Value} (h : w.ownsRow B e 1 v n xs) : ∀ g, v.ownBlock = some g → ∃ c fz, w.heap[g]? = some (.cells c e fz) := by
 intro g hg; rcases h.2 with ⟨rfl, _⟩ | ⟨g', cap, cur, rfl, _, hgg, _⟩
 ·simp [Value.ownBlock] at hg
 ·simp [Value.ownBlock] at hg
  subst hg; exact ⟨cur, _, hgg⟩
set_option maxHeartbeats 2000000 in
set_option maxRecDepth 100000 in
theorem WriteString (B b : Nat) (bs : List Value) (s : ByteArray) (w : World) (h : Lib.IsBuilder PT 5 B b bs w) (hlen : bs.length + s.size ≤ 140737488355328) (hBw : B ≤ w.heap.size) :
 Calls Tryd.prog 30 #[.pointer (some ⟨b, 0, none⟩), .string s] w fun e w' => e = .returned (.tuple #[.int .i64 s.size, .nilIface]) ∧ Wrote B b (bs ++ Lib.strCells s) w w' := by
 obtain ⟨i0, hi, hz0, hz1, hz2⟩ := info_parts infoByte; go_enter Tryd.func30, Tryd.ntmps30
 go_wp2_with (go_at_call 37; refine (copyCheck B b bs _ h).mono ?_)
 rintro e w1 ⟨rfl, h1, hb1, hk1⟩; obtain ⟨hB, v, hbk, hown, hne⟩ := h1; have c0 : w1.cell? ⟨b, 0, none⟩ = some (.pointer (some ⟨b, 0, none⟩)) := by rw [Lib.cell_of_heap hbk]; rfl
 have c1 : w1.cell? ⟨b, 1, none⟩ = some v := by rw [Lib.cell_of_heap hbk]; rfl
 go_wp2_with (at_builtin; refine Lib.wpList_append_own_string _ rfl _ _ 30 9 rfl B 5 i0 Tryd.underlying30 Tryd.underlying9 hi hz0 hz1 hz2 _ _ _ rfl hown s rfl ?c3 ?c4 ?c5 ?_)
 case c3 => unfold maxLen; omega
 case c4 => omega
 case c5 => have := hb1.size; omega
 intro v' w2 hown' hgrow _
 have hlt : b < w1.heap.size := by
  rcases Nat.lt_or_ge b w1.heap.size with h' | h'
  ·exact h'
  ·simp [Array.getElem?_eq_none h'] at hbk
 have hb2 : w2.heap[b]? = some (.cells #[.pointer (some ⟨b, 0, none⟩), v] PT (0, 0)) := by
  rw [hgrow.block b hlt (fun e => hne e.symm)]; exact hbk
 have d0 : w2.cell? ⟨b, 0, none⟩ = some (.pointer (some ⟨b, 0, none⟩)) := by rw [Lib.cell_of_heap hb2]; rfl
 have d1 : w2.cell? ⟨b, 1, none⟩ = some v := by rw [Lib.cell_of_heap hb2]; rfl
 have f1 : w2.frozen? ⟨b, 1, none⟩ = false := Lib.frozen_of_heap hb2 1
 obtain ⟨ao, n', cap, rfl⟩ : ∃ ao n' cap, v' = .slice ao n' cap := by
  rcases hown'.2 with ⟨hv, _⟩ | ⟨g, cap, cur, hv, _⟩
  ·exact ⟨_, _, _, hv⟩
  ·exact ⟨_, _, _, hv⟩
 go_wp2; go_ret2
 refine ⟨rfl, ?_, ?_, (hk1.grown hgrow (own_kind hown)).setCell ⟨b, 1, none⟩ rfl _⟩; ·exact Lib.BuilderAt.put (T := PT) (e := 5) hB hb2 (bs' := bs ++ Lib.strCells s) (by simpa [Lib.strCells_length] using hown') neB5
 ·exact (hb1.grown hgrow (by have := hb1.size; omega) (fun k hk => (hown.lt k hk).1)).setCell (p := ⟨b, 1, none⟩) hB _
set_option maxHeartbeats 4000000 in
set_option maxRecDepth 100000 in
theorem WriteRune (B b : Nat) (bs : List Value) (r : Int) (hr0 : -2147483648 ≤ r) (hr1 : r ≤ 2147483647) (w : World) (h : Lib.IsBuilder PT 5 B b bs w) (hlen : bs.length + 4 ≤ 140737488355328) (hBw : B ≤ w.heap.size) :
 Calls Tryd.prog 36 #[.pointer (some ⟨b, 0, none⟩), .int .i32 r] w fun e w' => e = .returned (.tuple #[.int .i64 (Lib.runeCells r).length, .nilIface]) ∧ Wrote B b (bs ++ Lib.runeCells r) w w' := by
 have hk4 := Lib.runeCells_le r; go_enter Tryd.func36, Tryd.ntmps36
 go_wp2_with (go_at_call 37; refine (copyCheck B b bs _ h).mono ?_)
 rintro e w1 ⟨rfl, h1, hb1, hk1⟩; obtain ⟨hB, v, hbk, hown, hne⟩ := h1
 obtain ⟨ao, cap, rfl⟩ : ∃ ao cap, v = .slice ao bs.length cap := by
  rcases hown.2 with ⟨hv, h0⟩ | ⟨g, cap, cur, hv, _⟩
  ·exact ⟨none, 0, by rw [hv, h0]⟩
  ·exact ⟨_, _, hv⟩
 have c0 : w1.cell? ⟨b, 0, none⟩ = some (.pointer (some ⟨b, 0, none⟩)) := by rw [Lib.cell_of_heap hbk]; rfl
 have c1 : w1.cell? ⟨b, 1, none⟩ = some (.slice ao bs.length cap) := by rw [Lib.cell_of_heap hbk]; rfl
 go_wp2_with (go_at_call 43; refine (Any.utf8_AppendRune_plain Tryd.lays242 (by kernel_rfl) B _ bs.length bs r hr0 hr1 _ hown hlen (by have := hb1.size; omega)).mono ?_)
 rintro e w2 ⟨v', rfl, hown0, o, hgrow⟩; have hown' : w2.ownsRow B 5 1 v' (bs.length + (Lib.runeCells r).length) (bs ++ Lib.runeCells r) := hown0; clear hown0
 have hlt : b < w1.heap.size := by
  rcases Nat.lt_or_ge b w1.heap.size with h' | h'
  ·exact h'
  ·simp [Array.getElem?_eq_none h'] at hbk
 have hb2 : w2.heap[b]? = some (.cells #[.pointer (some ⟨b, 0, none⟩), .slice ao bs.length cap] PT (0, 0)) := by
  rw [hgrow.block b (by simp; omega) (fun e => hne e.symm), Lib.alloc_old w1 _ b hlt]; exact hbk
 have d0 : w2.cell? ⟨b, 0, none⟩ = some (.pointer (some ⟨b, 0, none⟩)) := by rw [Lib.cell_of_heap hb2]; rfl
 have d1 : w2.cell? ⟨b, 1, none⟩ = some (.slice ao bs.length cap) := by rw [Lib.cell_of_heap hb2]; rfl
 have f1 : w2.frozen? ⟨b, 1, none⟩ = false := Lib.frozen_of_heap hb2 1
 obtain ⟨g, cap', rfl⟩ : ∃ g cap', v' = .slice (some ⟨g, 0, none⟩) (bs.length + (Lib.runeCells r).length) cap' := by
  rcases hown'.2 with ⟨_, h0⟩ | ⟨g, cap', cur, hv, _⟩
  ·omega
  ·exact ⟨g, cap', hv⟩
 go_wp2; go_ret2
 refine ⟨?_, ?_, ?_, ((hk1.alloc _).grown hgrow (own_kind (hown.alloc _))).setCell ⟨b, 1, none⟩ rfl _⟩
 ·have e : ((bs.length : Int) + ((Lib.runeCells r).length : Int) - (bs.length : Int)) = ((Lib.runeCells r).length : Int) := by omega
  simp [e]
 ·exact Lib.BuilderAt.put (T := PT) (e := 5) hB hb2 (bs' := bs ++ Lib.runeCells r) (by simpa using hown') neB5
 ·exact ((hb1.alloc (by have := hb1.size; omega) _).grown hgrow (by have := hb1.size; simp; omega) (fun k hk => (hown.lt k hk).1)).setCell (p := ⟨b, 1, none⟩) hB _
theorem unsafeString_none (W : World) (q : Option Addr) : (Builtin.unsafeString_ #[63, 3] 9 #[.pointer q, .int .i64 0]).run Tryd.prog W = .ok (.string .empty) W :=
 Lib.run_unsafeString_none W _ _ _ q
set_option maxHeartbeats 1000000 in
set_option maxRecDepth 100000 in
theorem String_some (B b : Nat) (l : List UInt8) (w : World) (h : Lib.IsBuilder PT 5 B b (Lib.byteCells l) w) (h0 : l ≠ []) :
 Calls Tryd.prog 18 #[.pointer (some ⟨b, 0, none⟩)] w fun e w' => e = .returned (.string ⟨l.toArray⟩) ∧ Below B w w' := by
 obtain ⟨p, hB, v, hbk, hown, hne⟩ : ∃ p, Lib.BuilderAt PT 5 B b p (Lib.byteCells l) w := by
  rcases h with h | h
  ·exact ⟨_, h⟩
  ·exact ⟨_, h⟩
 have hl0 : l.length ≠ 0 := by simpa using h0
 rw [Lib.byteCells_length] at hown
 obtain ⟨g, cap, cur, rfl, hbg, hg, hnc, hcm, hcs, htake⟩ : ∃ g cap cur, v = .slice (some ⟨g, 0, none⟩) l.length cap ∧ B ≤ g ∧ w.heap[g]? = some (.cells cur 5 (0, 0)) ∧ l.length ≤ cap ∧ cap ≤ maxLen ∧ cur.size = cap * 1 ∧ cur.toList.take (l.length * 1) = Lib.byteCells l := by
  rcases hown.2 with ⟨_, hz⟩ | ⟨g, cap, cur, hv, r⟩
  ·exact absurd hz hl0
  ·exact ⟨g, cap, cur, hv, r⟩
 have c1 : w.drew.cell? ⟨b, 1, none⟩ = some (.slice (some ⟨g, 0, none⟩) l.length cap) := by
  have : w.drew.heap[b]? = some (.cells #[p, .slice (some ⟨g, 0, none⟩) l.length cap] PT (0, 0)) := hbk; rw [Lib.cell_of_heap this]; rfl
 have hSD : (Builtin.unsafeSliceData_ #[30] 63 #[.slice (some ⟨g, 0, none⟩) l.length cap]).run Tryd.prog w.drew = .ok (.pointer (some ⟨g, 0, none⟩)) w.drew :=
  Lib.run_unsafeSliceData_row _ _ _ _ _ _ (by omega)
 have hUS : (Builtin.unsafeString_ #[63, 3] 9 #[.pointer (some ⟨g, 0, none⟩), .int .i64 l.length]).run Tryd.prog w.drew = .ok (.string ⟨l.toArray⟩) (w.drew.freeze ⟨g, 0, none⟩ l.length) := by
  refine Lib.run_unsafeString_row w.drew 63 3 9 5 Tryd.underlying63 (by kernel_rfl) g cur.size (by have hg' : w.drew.heap[g]? = some (.cells cur 5 (0, 0)) := hg; simp [World.shape?, hg']) l h0 (by omega) (by unfold maxLen at hcm; omega) ?_; intro j x hx; have := hown.cells (g := g) rfl j (.int .u8 x.toNat) (by simp [Lib.byteCells, hx]); exact this
 go_enter Tryd.func18, Tryd.ntmps18
 go_wp2; go_region
 all_goals (go_wp2; go_ret; exact ⟨rfl, Lib.below_freeze (Below.drew (Below.refl B w)) (p := ⟨g, 0, none⟩) hbg _⟩)
set_option maxHeartbeats 2000000 in
set_option maxRecDepth 100000 in
theorem String_nil (B b : Nat) (p : Value) (w : World) (hbk : w.heap[b]? = some (.cells #[p, .slice none 0 0] PT (0, 0))) :
 Calls Tryd.prog 18 #[.pointer (some ⟨b, 0, none⟩)] w fun e w' => e = .returned (.string ⟨#[]⟩) ∧ Below B w w' := by
 have hUS := unsafeString_none
 have c1 : w.drew.cell? ⟨b, 1, none⟩ = some (.slice none 0 0) := by
  have : w.drew.heap[b]? = some (.cells #[p, .slice none 0 0] PT (0, 0)) := hbk; rw [Lib.cell_of_heap this]; rfl
 have hSD : (Builtin.unsafeSliceData_ #[30] 63 #[.slice none 0 0]).run Tryd.prog w.drew = .ok (.pointer none) w.drew := rfl; go_enter Tryd.func18, Tryd.ntmps18
 go_wp2; go_region
 all_goals (go_wp2; go_ret; exact ⟨rfl, Below.drew (Below.refl B w)⟩)
set_option maxHeartbeats 2000000 in
set_option maxRecDepth 100000 in
theorem String_noroom (B b g : Nat) (p : Value) (cur : Array Value) (w : World) (hBw : B ≤ w.heap.size) (hbk : w.heap[b]? = some (.cells #[p, .slice (some ⟨g, 0, none⟩) 0 0] PT (0, 0))) (hg : w.heap[g]? = some (.cells cur 5 (0, 0))) :
 Calls Tryd.prog 18 #[.pointer (some ⟨b, 0, none⟩)] w fun e w' => e = .returned (.string ⟨#[]⟩) ∧ Below B w w' := by
 have hUS := unsafeString_none
 have hlt : b < w.heap.size := by
  rcases Nat.lt_or_ge b w.heap.size with h' | h'
  ·exact h'
  ·simp [Array.getElem?_eq_none h'] at hbk
 have c1 : w.drew.cell? ⟨b, 1, none⟩ = some (.slice (some ⟨g, 0, none⟩) 0 0) := by
  have : w.drew.heap[b]? = some (.cells #[p, .slice (some ⟨g, 0, none⟩) 0 0] PT (0, 0)) := hbk; rw [Lib.cell_of_heap this]; rfl
 have hSD : (Builtin.unsafeSliceData_ #[30] 63 #[.slice (some ⟨g, 0, none⟩) 0 0]).run Tryd.prog w.drew = .ok (.pointer (some ⟨w.drew.heap.size, 0, none⟩)) (w.drew.alloc (.view ⟨g, 0, none⟩ 5)) :=
  Lib.run_unsafeSliceData_zero w.drew _ _ 5 Tryd.underlying63 ⟨g, 0, none⟩ 0 (5, cur.size) (by have hg' : w.drew.heap[g]? = some (.cells cur 5 (0, 0)) := hg; simp [World.shape?, hg'])
 have c2 : (w.drew.alloc (.view ⟨g, 0, none⟩ 5)).cell? ⟨b, 1, none⟩ = some (.slice (some ⟨g, 0, none⟩) 0 0) := by
  have : (w.drew.alloc (.view ⟨g, 0, none⟩ 5)).heap[b]? = _ := (Lib.alloc_old w.drew _ b hlt).trans hbk; rw [Lib.cell_of_heap this]; rfl
 have c3 : (w.alloc (.view ⟨g, 0, none⟩ 5)).drew.cell? ⟨b, 1, none⟩ = some (.slice (some ⟨g, 0, none⟩) 0 0) := c2; have c0 : w.cell? ⟨b, 1, none⟩ = some (.slice (some ⟨g, 0, none⟩) 0 0) := c1; go_enter Tryd.func18, Tryd.ntmps18
 go_wp2; go_region
 all_goals (go_wp2; go_ret; exact ⟨rfl, (Below.drew (Below.refl B w)).alloc hBw _⟩)
set_option maxHeartbeats 2000000 in
set_option maxRecDepth 100000 in
theorem String_room (B b g cap : Nat) (p : Value) (w : World) (hc0 : cap ≠ 0) (hbk : w.heap[b]? = some (.cells #[p, .slice (some ⟨g, 0, none⟩) 0 cap] PT (0, 0))) :
 Calls Tryd.prog 18 #[.pointer (some ⟨b, 0, none⟩)] w fun e w' => e = .returned (.string ⟨#[]⟩) ∧ Below B w w' := by
 have hUS := unsafeString_none
 have c1 : w.drew.cell? ⟨b, 1, none⟩ = some (.slice (some ⟨g, 0, none⟩) 0 cap) := by
  have : w.drew.heap[b]? = some (.cells #[p, .slice (some ⟨g, 0, none⟩) 0 cap] PT (0, 0)) := hbk; rw [Lib.cell_of_heap this]; rfl
 have hSD : (Builtin.unsafeSliceData_ #[30] 63 #[.slice (some ⟨g, 0, none⟩) 0 cap]).run Tryd.prog w.drew = .ok (.pointer (some ⟨g, 0, none⟩)) w.drew :=
  Lib.run_unsafeSliceData_row _ _ _ _ _ _ hc0
 clear hc0; go_enter Tryd.func18, Tryd.ntmps18
 go_wp2; go_region
 all_goals (go_wp2; go_ret; exact ⟨rfl, Below.drew (Below.refl B w)⟩)
theorem String_any (B b : Nat) (l : List UInt8) (w : World) (h : Lib.IsBuilder PT 5 B b (Lib.byteCells l) w) (hBw : B ≤ w.heap.size) :
 Calls Tryd.prog 18 #[.pointer (some ⟨b, 0, none⟩)] w fun e w' => e = .returned (.string ⟨l.toArray⟩) ∧ Below B w w' := by
 cases l with
 | cons x r => exact String_some B b (x :: r) w h (by simp)
 | nil =>
  obtain ⟨p, hB, v, hbk, hown, hne⟩ : ∃ p, Lib.BuilderAt PT 5 B b p [] w := by
   rcases h with h | h
   ·exact ⟨_, h⟩
   ·exact ⟨_, h⟩
  rcases hown.2 with ⟨rfl, _⟩ | ⟨g, cap, cur, rfl, hbg, hg, _, _, _, _⟩
  ·exact String_nil B b p w hbk
  ·by_cases hc0 : cap = 0
   ·subst hc0; exact String_noroom B b g p cur w hBw hbk hg
   ·exact String_room B b g cap p w hc0 hbk
end Go.Proofs.YtbbikcmkcgoamaaDoor.Bld
namespace Go.Proofs.YtbbikcmkcgoamaaDoor.Pp
open Go.RowKit Go.Proofs.YtbbikcmkcgoamaaDoorW.PrintWords Go.Proofs.YtbbikcmkcgoamaaDoorW.PrintLast Go.Proofs.YtbbikcmkcgoamaaDoorW.PrintMore Go.Proofs.YtbbikcmkcgoamaaDoor.My
def escR (v : Bool) (c : Int) : List UInt8 := if c = 38 then [38, 97, 109, 112, 59] else if c = 60 then [38, 108, 116, 59] else if c = 62 then [38, 103, 116, 59] else if c = 160 then [38, 110, 98, 115, 112, 59] else if c = 34 ∧ v = true then [38, 113, 117, 111, 116, 59] else Lib.encodeRune c
def charsP (s : ByteArray) (v : Bool) : List UInt8 := (runesOf s).flatMap (escR v)
theorem escR_le (v : Bool) (c : Int) : (escR v c).length ≤ 6 := by
 unfold escR; repeat' split
 all_goals first | (simp; done) | (have := Lib.runeCells_le c; rw [Lib.runeCells_length] at this; omega)
theorem flat_le (v : Bool) : ∀ l : List Int, (l.flatMap (escR v)).length ≤ 6 * l.length
 | [] => by simp
 | c :: l => by have := flat_le v l; have := escR_le v c; rw [List.flatMap_cons, List.length_append, List.length_cons]; omega
theorem charsP_le (s : ByteArray) (v : Bool) : (charsP s v).length ≤ 6 * s.size := by
 have := flat_le v (runesOf s); have := runesOf_le s; unfold charsP; omega
theorem runesFrom_end (s : ByteArray) (n pos : Nat) (h : ¬ pos < s.size) : runesFrom s n pos = [] := by
 cases n with
 | zero => rfl
 | succ f => simp [runesFrom, h]
theorem runesFrom_step (s : ByteArray) (n pos : Nat) (h : pos < s.size) : runesFrom s (n + 1) pos = ((Utf8.decode s pos).1 : Int) :: runesFrom s n (pos + (Utf8.decode s pos).2) := by simp [runesFrom, h]
def Wr (B b : Nat) (bs : List UInt8) (w w' : World) : Prop := Lib.IsBuilder Bld.PT 5 B b (Lib.byteCells bs) w' ∧ Below B w w' ∧ Lib.OthersKept 5 (some b) w w'
theorem Wr.of {B b : Nat} {bs : List UInt8} {w w' : World} (h : Bld.Wrote B b (Lib.byteCells bs) w w') : Wr B b bs w w' := ⟨.inr h.1, h.2.1, h.2.2⟩
theorem Wr.trans {B b : Nat} {bs cs : List UInt8} {w w1 w2 : World} (h : Wr B b bs w w1) (k : Wr B b cs w1 w2) : Wr B b cs w w2 := ⟨k.1, h.2.1.trans k.2.1, h.2.2.trans k.2.2⟩
theorem isb_iter {B b : Nat} {bs : List Value} {w : World} (h : Lib.IsBuilder Bld.PT 5 B b bs w) {k : Nat} {s : ByteArray} {pos : Nat} (hk : w.heap[k]? = some (.stringIter s pos)) (pos' : Nat) : Lib.IsBuilder Bld.PT 5 B b bs (w.iterAt k s pos') := by
 have key : ∀ p, Lib.BuilderAt Bld.PT 5 B b p bs w → Lib.BuilderAt Bld.PT 5 B b p bs (w.iterAt k s pos') := by
  rintro p ⟨hB, v, hb, hown, hne⟩
  have hkb : b ≠ k := by
   intro e1; rw [e1, hk] at hb; cases hb
  refine ⟨hB, v, (Lib.iterAt_other w k b s pos' hkb).trans hb, ⟨hown.1, ?_⟩, hne⟩; rcases hown.2 with hn | ⟨g, cap, cur, hv, hbg, hg, rest⟩
  ·exact .inl hn
  ·have hkg : g ≠ k := by
    intro e1; rw [e1, hk] at hg; cases hg
   exact .inr ⟨g, cap, cur, hv, hbg, (Lib.iterAt_other w k g s pos' hkg).trans hg, rest⟩
 exact h.elim (fun x => .inl (key _ x)) (fun x => .inr (key _ x))
theorem isb_moved {B b : Nat} {bs : List Value} {w w' : World} (h : Lib.IsBuilder Bld.PT 5 B b bs w) (hb : Below w.heap.size w w') : Lib.IsBuilder Bld.PT 5 B b bs w' := by
 have key : ∀ p, Lib.BuilderAt Bld.PT 5 B b p bs w → Lib.BuilderAt Bld.PT 5 B b p bs w' := by
  rintro p ⟨hB, v, hbk, hown, hne⟩; exact ⟨hB, v, blk_below hbk hb, pw_own_below hown hb, hne⟩
 exact h.elim (fun x => .inl (key _ x)) (fun x => .inr (key _ x))
theorem isb_lt {B b : Nat} {bs : List Value} {w : World} (h : Lib.IsBuilder Bld.PT 5 B b bs w) : b < w.heap.size := h.elim (fun x => x.lt) (fun x => x.lt)
theorem kept_below {b : Nat} {w w' : World} (hb : Below w.heap.size w w') : Lib.OthersKept 5 (some b) w w' := fun k o hk _ _ => blk_below hk hb
theorem kept_iter {b k : Nat} {w w' : World} {s : ByteArray} (hlt : w.heap.size ≤ k) (h : Lib.OthersKept 5 (some b) w w') (pos' : Nat) : Lib.OthersKept 5 (some b) w (w'.iterAt k s pos') := by
 intro i o hi hb ho; rw [Lib.iterAt_other _ _ _ _ _ (by have := blk_lt hi; omega)]; exact h i o hi hb ho
set_option maxHeartbeats 8000000 in
set_option maxRecDepth 100000 in
theorem chars_calls (s : ByteArray) (v : Bool) (B b : Nat) (bs : List UInt8) (w : World) (h : Lib.IsBuilder Bld.PT 5 B b (Lib.byteCells bs) w) (hlen : bs.length + (charsP s v).length ≤ 70368744177664) (hBw : B ≤ w.heap.size) :
 Calls Tryd.prog 28 #[.pointer (some ⟨b, 0, none⟩), .string s, .bool v] w fun e w' => e = .returned (.tuple #[]) ∧ Wr B b (bs ++ charsP s v) w w' := by
 obtain ⟨T, hT⟩ : ∃ T, T = charsP s v := ⟨_, rfl⟩; rw [← hT] at hlen ⊢; have HT := Aside0.mk hT; have HL := Aside0.mk hlen; clear hT hlen; have HI := Aside0.mk h; have hbl := isb_lt h; clear h; go_enter Tryd.func28, Tryd.ntmps28
 go_wp2; go_loopw [] (fun wr => ∃ (pos fuel : Nat) (acc : List UInt8), Aside0 (Lib.IsBuilder Bld.PT 5 B b (Lib.byteCells (bs ++ acc)) wr) ∧ Aside0 (wr.heap[w.heap.size]? = some (.stringIter s pos)) ∧ Aside0 (Below B w wr) ∧ Aside0 (Lib.OthersKept 5 (some b) w wr) ∧ Aside0 (acc ++ (runesFrom s fuel pos).flatMap (escR v) = T) ∧ s.size ≤ pos + fuel) (fun wr => s.size - wr.iterPos w.heap.size)
 case atStart =>
  have hb0 : Below w.heap.size w (w.iter s 0) := (Below.refl _ w).alloc (Nat.le_refl _) _; refine ⟨0, s.size, [], ⟨?_⟩, ⟨World.iter_heap w s 0⟩, ⟨hb0.mono hBw⟩, ⟨kept_below hb0⟩, ⟨by rw [HT.out]; rfl⟩, by omega⟩; rw [List.append_nil]; exact isb_moved HI.out hb0
 case round =>
  obtain ⟨pos, fuel, acc, hI, hit, hbw, hok, hacc, hfu⟩ := hrel; by_cases hp : pos < s.size
  ·have hnx : ∀ ty, (Instr.next (.pointer (some ⟨w.heap.size, 0, none⟩)) true ty).run Tryd.prog wr = _ := fun ty => Lib.run_next_any_at wr w.heap.size s pos ty hit.out hp
   have hwd := width_pos s pos hp; have hd1 := decode_le s pos; have HIT := Aside0.mk (Lib.iterAt_heap wr w.heap.size s pos (pos + (Utf8.decode s pos).2) hit.out); have HB := Aside0.mk (Lib.below_iterAt hbw.out (k := w.heap.size) hBw s (pos + (Utf8.decode s pos).2)); have HI2 := Aside0.mk (isb_iter hI.out hit.out (pos + (Utf8.decode s pos).2)); have HK := Aside0.mk (kept_iter (k := w.heap.size) (s := s) (Nat.le_refl _) hok.out (pos + (Utf8.decode s pos).2)); obtain ⟨f, rfl⟩ : ∃ f, fuel = f + 1 := ⟨fuel - 1, by omega⟩; have HA := Aside0.mk (show acc ++ escR v (Utf8.decode s pos).1 ++ (runesFrom s f (pos + (Utf8.decode s pos).2)).flatMap (escR v) = T by have := hacc.out; rw [runesFrom_step s f pos hp] at this; simpa using this); have HI0 := Aside0.mk hit.out; clear hacc hbw hit hI hok; generalize hdc : Utf8.decode s pos = dc at *; obtain ⟨c, wd⟩ := dc; clear hdc; simp only at *; generalize wr.iterAt w.heap.size s (pos + wd) = W1 at *; have HS := Aside0.mk (show B ≤ W1.heap.size from Nat.le_trans hBw HB.out.size); have HLE := Aside0.mk (show bs.length + (acc.length + (escR v c).length) ≤ 70368744177664 by have h1 := congrArg List.length HA.out; have h2 := HL.out; simp at h1; omega); by_cases camp : (c : Int) = 38
   ·have he : escR v c = [38, 97, 109, 112, 59] := by unfold escR; rw [if_pos camp]
    rw [he] at HA HLE; have HE := Aside0.mk he; clear he; have y : ((c : Int) == 38) = true := by first | (simp; done) | (simp; omega)
    have hl2 : (Lib.byteCells (bs ++ acc)).length + 5 ≤ 140737488355328 := by have := HLE.out; rw [Lib.byteCells_length, List.length_append]; simp only [List.length_cons, List.length_nil] at this; omega
    have HL2 := Aside0.mk hl2; have HC := Aside0.mk camp; clear hl2 camp; go_wp2_with (go_at_call 30; refine (Bld.WriteString B b _ ⟨#[38, 97, 109, 112, 59]⟩ _ HI2.out HL2.out HS.out).mono ?_)
    first | (rintro e W2 ⟨rfl, h1⟩; have HW := Aside0.mk h1; clear h1) | (rintro e W2 rfl h1; have HW := Aside0.mk h1; clear h1)
    go_wp2; go_roundw
    case rel =>
     obtain ⟨q1, q2, q3⟩ := HW.out; refine ⟨pos + wd, f, acc ++ [38, 97, 109, 112, 59], ⟨.inr ?_⟩, ⟨q3.iter HIT.out (by omega)⟩, ⟨HB.out.trans q2⟩, ⟨HK.out.trans q3⟩, ⟨HA.out⟩, by omega⟩; rw [← List.append_assoc, Lib.byteCells_append]; exact q1
    case measure =>
     obtain ⟨q1, q2, q3⟩ := HW.out; have h0 := HI0.out; have h2 := q3.iter HIT.out (by omega); simp only [World.iterPos, h0, h2]; omega
   by_cases clt : (c : Int) = 60
   ·have he : escR v c = [38, 108, 116, 59] := by unfold escR; rw [if_neg (by omega)]; rw [if_pos clt]
    rw [he] at HA HLE; have HE := Aside0.mk he; clear he; have namp : ((c : Int) == 38) = false := by first | (simp; done) | (simp; omega)
    have y : ((c : Int) == 60) = true := by first | (simp; done) | (simp; omega)
    have hl2 : (Lib.byteCells (bs ++ acc)).length + 4 ≤ 140737488355328 := by have := HLE.out; rw [Lib.byteCells_length, List.length_append]; simp only [List.length_cons, List.length_nil] at this; omega
    have HL2 := Aside0.mk hl2; have HC := Aside0.mk clt; clear hl2 clt; go_wp2_with (go_at_call 30; refine (Bld.WriteString B b _ ⟨#[38, 108, 116, 59]⟩ _ HI2.out HL2.out HS.out).mono ?_)
    first | (rintro e W2 ⟨rfl, h1⟩; have HW := Aside0.mk h1; clear h1) | (rintro e W2 rfl h1; have HW := Aside0.mk h1; clear h1)
    go_wp2; go_roundw
    case rel =>
     obtain ⟨q1, q2, q3⟩ := HW.out; refine ⟨pos + wd, f, acc ++ [38, 108, 116, 59], ⟨.inr ?_⟩, ⟨q3.iter HIT.out (by omega)⟩, ⟨HB.out.trans q2⟩, ⟨HK.out.trans q3⟩, ⟨HA.out⟩, by omega⟩; rw [← List.append_assoc, Lib.byteCells_append]; exact q1
    case measure =>
     obtain ⟨q1, q2, q3⟩ := HW.out; have h0 := HI0.out; have h2 := q3.iter HIT.out (by omega); simp only [World.iterPos, h0, h2]; omega
   by_cases cgt : (c : Int) = 62
   ·have he : escR v c = [38, 103, 116, 59] := by unfold escR; rw [if_neg (by omega)]; rw [if_neg (by omega)]; rw [if_pos cgt]
    rw [he] at HA HLE; have HE := Aside0.mk he; clear he; have namp : ((c : Int) == 38) = false := by first | (simp; done) | (simp; omega)
    have nlt : ((c : Int) == 60) = false := by first | (simp; done) | (simp; omega)
    have y : ((c : Int) == 62) = true := by first | (simp; done) | (simp; omega)
    have hl2 : (Lib.byteCells (bs ++ acc)).length + 4 ≤ 140737488355328 := by have := HLE.out; rw [Lib.byteCells_length, List.length_append]; simp only [List.length_cons, List.length_nil] at this; omega
    have HL2 := Aside0.mk hl2; have HC := Aside0.mk cgt; clear hl2 cgt; go_wp2_with (go_at_call 30; refine (Bld.WriteString B b _ ⟨#[38, 103, 116, 59]⟩ _ HI2.out HL2.out HS.out).mono ?_)
    first | (rintro e W2 ⟨rfl, h1⟩; have HW := Aside0.mk h1; clear h1) | (rintro e W2 rfl h1; have HW := Aside0.mk h1; clear h1)
    go_wp2; go_roundw
    case rel =>
     obtain ⟨q1, q2, q3⟩ := HW.out; refine ⟨pos + wd, f, acc ++ [38, 103, 116, 59], ⟨.inr ?_⟩, ⟨q3.iter HIT.out (by omega)⟩, ⟨HB.out.trans q2⟩, ⟨HK.out.trans q3⟩, ⟨HA.out⟩, by omega⟩; rw [← List.append_assoc, Lib.byteCells_append]; exact q1
    case measure =>
     obtain ⟨q1, q2, q3⟩ := HW.out; have h0 := HI0.out; have h2 := q3.iter HIT.out (by omega); simp only [World.iterPos, h0, h2]; omega
   by_cases cnbsp : (c : Int) = 160
   ·have he : escR v c = [38, 110, 98, 115, 112, 59] := by unfold escR; rw [if_neg (by omega)]; rw [if_neg (by omega)]; rw [if_neg (by omega)]; rw [if_pos cnbsp]
    rw [he] at HA HLE; have HE := Aside0.mk he; clear he; have namp : ((c : Int) == 38) = false := by first | (simp; done) | (simp; omega)
    have nlt : ((c : Int) == 60) = false := by first | (simp; done) | (simp; omega)
    have ngt : ((c : Int) == 62) = false := by first | (simp; done) | (simp; omega)
    have y : ((c : Int) == 160) = true := by first | (simp; done) | (simp; omega)
    have hl2 : (Lib.byteCells (bs ++ acc)).length + 6 ≤ 140737488355328 := by have := HLE.out; rw [Lib.byteCells_length, List.length_append]; simp only [List.length_cons, List.length_nil] at this; omega
    have HL2 := Aside0.mk hl2; have HC := Aside0.mk cnbsp; clear hl2 cnbsp; go_wp2_with (go_at_call 30; refine (Bld.WriteString B b _ ⟨#[38, 110, 98, 115, 112, 59]⟩ _ HI2.out HL2.out HS.out).mono ?_)
    first | (rintro e W2 ⟨rfl, h1⟩; have HW := Aside0.mk h1; clear h1) | (rintro e W2 rfl h1; have HW := Aside0.mk h1; clear h1)
    go_wp2; go_roundw
    case rel =>
     obtain ⟨q1, q2, q3⟩ := HW.out; refine ⟨pos + wd, f, acc ++ [38, 110, 98, 115, 112, 59], ⟨.inr ?_⟩, ⟨q3.iter HIT.out (by omega)⟩, ⟨HB.out.trans q2⟩, ⟨HK.out.trans q3⟩, ⟨HA.out⟩, by omega⟩; rw [← List.append_assoc, Lib.byteCells_append]; exact q1
    case measure =>
     obtain ⟨q1, q2, q3⟩ := HW.out; have h0 := HI0.out; have h2 := q3.iter HIT.out (by omega); simp only [World.iterPos, h0, h2]; omega
   by_cases cquot : (c : Int) = 34 ∧ v = true
   ·have he : escR v c = [38, 113, 117, 111, 116, 59] := by unfold escR; rw [if_neg (by omega)]; rw [if_neg (by omega)]; rw [if_neg (by omega)]; rw [if_neg (by omega)]; rw [if_pos cquot]
    rw [he] at HA HLE; have HE := Aside0.mk he; clear he; have namp : ((c : Int) == 38) = false := by first | (simp; done) | (simp; omega)
    have nlt : ((c : Int) == 60) = false := by first | (simp; done) | (simp; omega)
    have ngt : ((c : Int) == 62) = false := by first | (simp; done) | (simp; omega)
    have nnbsp : ((c : Int) == 160) = false := by first | (simp; done) | (simp; omega)
    have y : ((c : Int) == 34) = true := by first | (simp; done) | (simp; omega)
    obtain rfl := cquot.2; have hl2 : (Lib.byteCells (bs ++ acc)).length + 6 ≤ 140737488355328 := by have := HLE.out; rw [Lib.byteCells_length, List.length_append]; simp only [List.length_cons, List.length_nil] at this; omega
    have HL2 := Aside0.mk hl2; have HC := Aside0.mk cquot; clear hl2 cquot; go_wp2_with (go_at_call 30; refine (Bld.WriteString B b _ ⟨#[38, 113, 117, 111, 116, 59]⟩ _ HI2.out HL2.out HS.out).mono ?_)
    first | (rintro e W2 ⟨rfl, h1⟩; have HW := Aside0.mk h1; clear h1) | (rintro e W2 rfl h1; have HW := Aside0.mk h1; clear h1)
    go_wp2; go_roundw
    case rel =>
     obtain ⟨q1, q2, q3⟩ := HW.out; refine ⟨pos + wd, f, acc ++ [38, 113, 117, 111, 116, 59], ⟨.inr ?_⟩, ⟨q3.iter HIT.out (by omega)⟩, ⟨HB.out.trans q2⟩, ⟨HK.out.trans q3⟩, ⟨HA.out⟩, by omega⟩; rw [← List.append_assoc, Lib.byteCells_append]; exact q1
    case measure =>
     obtain ⟨q1, q2, q3⟩ := HW.out; have h0 := HI0.out; have h2 := q3.iter HIT.out (by omega); simp only [World.iterPos, h0, h2]; omega
   have he : escR v c = Lib.encodeRune c := by unfold escR; rw [if_neg camp, if_neg clt, if_neg cgt, if_neg cnbsp, if_neg cquot]
   rw [he] at HA HLE; clear he; have namp : ((c : Int) == 38) = false := by first | (simp; done) | (simp; omega)
   have nlt : ((c : Int) == 60) = false := by first | (simp; done) | (simp; omega)
   have ngt : ((c : Int) == 62) = false := by first | (simp; done) | (simp; omega)
   have nnbsp : ((c : Int) == 160) = false := by first | (simp; done) | (simp; omega)
   have hle4 := Lib.runeCells_le (c : Int); rw [Lib.runeCells_length] at hle4; have way : ((c : Int) == 34) = false ∨ (((c : Int) == 34) = true ∧ v = false) := by cases v <;> simp at cquot ⊢ <;> omega
   have hl2 : (Lib.byteCells (bs ++ acc)).length + 4 ≤ 140737488355328 := by have := HLE.out; rw [Lib.byteCells_length, List.length_append]; omega
   have HL2 := Aside0.mk hl2; have HR0 := Aside0.mk (show (-2147483648 : Int) ≤ (c : Int) by omega); have HR1 := Aside0.mk (show (c : Int) ≤ 2147483647 by omega); clear hl2 hle4 hd1 camp clt cgt cnbsp cquot; rcases way with way | ⟨way, rfl⟩
   all_goals
    go_wp2_with (go_at_call 36; refine (Bld.WriteRune B b _ _ HR0.out HR1.out _ HI2.out HL2.out HS.out).mono ?_)
    first | (rintro e W2 ⟨rfl, h1⟩; have HW := Aside0.mk h1; clear h1) | (rintro e W2 rfl h1; have HW := Aside0.mk h1; clear h1)
    go_wp2; go_roundw
    case rel =>
     obtain ⟨q1, q2, q3⟩ := HW.out; refine ⟨pos + wd, f, acc ++ Lib.encodeRune c, ⟨.inr ?_⟩, ⟨q3.iter HIT.out (by omega)⟩, ⟨HB.out.trans q2⟩, ⟨HK.out.trans q3⟩, ⟨HA.out⟩, by omega⟩; rw [← List.append_assoc, Lib.byteCells_append, Lib.byteCells_encodeRune]; exact q1
    case measure =>
     obtain ⟨q1, q2, q3⟩ := HW.out; have h0 := HI0.out; have h2 := q3.iter HIT.out (by omega); simp only [World.iterPos, h0, h2]; omega
  ·have hnx : ∀ ty, (Instr.next (.pointer (some ⟨w.heap.size, 0, none⟩)) true ty).run Tryd.prog wr = _ := fun ty => Lib.run_next_end_at wr w.heap.size s pos ty hit.out hp
   have hr := hacc.out; rw [runesFrom_end s fuel pos hp] at hr; simp only [List.flatMap_nil, List.append_nil] at hr; subst hr; go_wp2; go_end0
   exact ⟨rfl, hI.out, hbw.out, hok.out⟩
end Go.Proofs.YtbbikcmkcgoamaaDoor.Pp
