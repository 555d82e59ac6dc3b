/- Joined by merge.py of this session: words, walks and plain laws of this claim. -/
import Derived.Test.YtbbikcmkcgoamaaDoorMkuM15
import Derived.Test.YtbbikcmkcgoamaaDoorMkuM16
import Derived.Test.YtbbikcmkcgoamaaDoorMkuM10
import Derived.Test.YtbbikcmkcgoamaaDoorMkuM11
import Derived.Test.YtbbikcmkcgoamaaDoorMkuM6
import Derived.Test.YtbbikcmkcgoamaaDoorMkuM5
import Derived.Test.YtbbikcmkcgoamaaDoorMkuM13
import Derived.Test.YtbbikcmkcgoamaaDoorMkuM3
set_option linter.unusedSimpArgs false
set_option linter.unusedVariables false
namespace Go.Proofs.YtbbikcmkcgoamaaDoor.Pp
open Go.RowKit Go.Proofs.YtbbikcmkcgoamaaDoorW.PrintWords Go.Proofs.YtbbikcmkcgoamaaDoorW.PrintLast Go.Proofs.YtbbikcmkcgoamaaDoorW.PrintMore
theorem rd_of (l : List Int) (i : Nat) (h : i < l.length) : rd l (i : Int) = l[i] := by simp [rd, List.getD_eq_getElem?_getD, List.getElem?_eq_getElem h]
theorem take_rev (l : List Int) (i : Nat) (h : i < l.length) : (l.take (i + 1)).reverse = l[i] :: (l.take i).reverse := by rw [List.take_succ_eq_append_getElem h, List.reverse_append]; rfl
theorem rev_two (l : List Int) (i : Nat) (h : i + 1 < l.length) : ∃ y r, (l.take (i + 1)).reverse = y :: r := ⟨_, _, take_rev l i (by omega)⟩
section
variable (M : Nat) (hM : M ≤ 70368744177664) (up : List Int) (hup : 0 < up.length) (hup2 : up.length ≤ 40) (t : Int) (l : List S47) (tx : ByteArray) (ks : List S25) (hn : nsz ⟨t, l, tx, ks⟩ ≤ M)
include hM hup2 hn
theorem kids_last (k : Nat) : ((some (([] : List Int) : List Int)).bind fun y235 => (if y235.length + up.length < 17592186044416 then ((some (y235 ++ up : List Int)).bind fun y238 => ((some (([t] : List Int) : List Int)).bind fun y241 => (if y238.length + y241.length < 17592186044416 then ((quillworkref16_kids_at M k t l tx ks (y238 ++ y241)).bind fun t247 => (some t247)) else (none)))) else (none))) = some (kidsR ks false (t :: up.reverse)) := by
 simp only [Option.bind_some, List.nil_append, List.length_nil, List.length_cons]; rw [if_pos (by omega), if_pos (by omega)]; unfold quillworkref16_kids_at; rw [if_pos ⟨hn, hM, by simp, by simp; omega⟩]; simp
theorem li_l2 : ∀ (i : Nat), i < up.length → Ev (fun k => quillworkref16_normal.l2 M k up (i : Int) t l tx ks) (!liUp (up.take (i + 1)).reverse && kidsR ks false (t :: up.reverse)) := by
 intro i; induction i with
 | zero =>
  intro hi; have e : liUp (up.take (0 + 1)).reverse = false := by rw [take_rev up 0 hi]; rfl
  rw [e, Bool.not_false, Bool.true_and]; refine Ev.step (f := fun k => quillworkref16_normal.j8 M k up ((0 : Nat) : Int) false t l tx ks) (fun k => ?_) (Ev.step (f := fun _ => some (kidsR ks false (t :: up.reverse))) (fun k => ?_) (Ev.now _))
  ·simp only [quillworkref16_normal.l2]; rw [if_neg (by decide)]
  ·simp only [quillworkref16_normal.j8]; rw [if_neg (by decide)]; exact kids_last M hM up hup2 t l tx ks hn k
 | succ i ih =>
  intro hi; have c0 : ((i + 1 : Nat) : Int) > 0 := by omega
  have c1 : (0 : Int) ≤ ((i + 1 : Nat) : Int) := by omega
  have c2 : ((i + 1 : Nat) : Int) < (up.length : Int) := by omega
  have hw : wrap64 (((i + 1 : Nat) : Int) - 1) = (i : Int) := by rw [wrap64_of (by omega) (by omega)]; omega
  obtain ⟨y, r, e2⟩ := rev_two up i hi; have ih' := ih (by omega); rw [take_rev up (i + 1) hi]; rw [e2] at ih' ⊢
  have hl : ∀ b : Bool, b = (if up[i + 1] = 7 then false else (up[i + 1] != 8)) → ∀ k, quillworkref16_normal.l2 M (k + 1) up ((i + 1 : Nat) : Int) t l tx ks = quillworkref16_normal.j8 M k up ((i + 1 : Nat) : Int) b t l tx ks := fun b hb k => by
   simp only [quillworkref16_normal.l2, if_pos c0, if_pos c1, if_pos c2, rd_of up (i + 1) hi]; rw [hb]; split <;> rfl
  by_cases h78 : up[i + 1] = 7 ∨ up[i + 1] = 8
  ·have e : liUp (up[i + 1] :: y :: r) = false := by unfold liUp; rw [if_pos h78]
   rw [e, Bool.not_false, Bool.true_and]; refine Ev.step (hl false (by rcases h78 with h | h <;> rw [h] <;> rfl)) (Ev.step (f := fun _ => some (kidsR ks false (t :: up.reverse))) (fun k => ?_) (Ev.now _)); simp only [quillworkref16_normal.j8]; rw [if_neg (by decide)]; exact kids_last M hM up hup2 t l tx ks hn k
  ·have hb : true = (if up[i + 1] = 7 then false else (up[i + 1] != 8)) := by
    rw [if_neg (fun h => h78 (.inl h))]; symm
    rw [bne_iff_ne]; exact fun h => h78 (.inr h)
   by_cases h9 : up[i + 1] = 9
   ·have e : liUp (up[i + 1] :: y :: r) = true := by unfold liUp; rw [if_neg h78, if_pos h9]
    rw [e, Bool.not_true, Bool.false_and]; refine Ev.step (hl true hb) (Ev.step (f := fun _ => some false) (fun k => ?_) (Ev.now _)); simp only [quillworkref16_normal.j8, if_pos c1, if_pos c2, rd_of up (i + 1) hi, if_pos h9, if_true]
   ·have e : liUp (up[i + 1] :: y :: r) = liUp (y :: r) := by conv => lhs; unfold liUp; rw [if_neg h78, if_neg h9]
    rw [e]; refine Ev.step (hl true hb) (Ev.step (fun k => ?_) ih'); simp only [quillworkref16_normal.j8, if_pos c1, if_pos c2, rd_of up (i + 1) hi, if_neg h9, if_true, hw]
theorem nrm_j6 (hup : 0 < up.length) : Ev (fun k => quillworkref16_normal.j6 M k up t l tx ks) (!(t == 9 && liUp up.reverse) && kidsR ks false (t :: up.reverse)) := by
 have hw : wrap64 ((up.length : Int) - 1) = ((up.length - 1 : Nat) : Int) := by rw [wrap64_of (by omega) (by omega)]; omega
 by_cases h9 : t = 9
 ·have h := li_l2 M hM up hup2 t l tx ks hn (up.length - 1) (by omega); rw [show up.length - 1 + 1 = up.length by omega, List.take_length] at h; rw [show (t == 9) = true by simp [h9], Bool.true_and]; refine Ev.step (fun k => ?_) h; simp only [quillworkref16_normal.j6, if_pos h9, hw]
 ·rw [show (t == 9) = false by simp [h9], Bool.false_and, Bool.not_false, Bool.true_and]; refine Ev.step (f := fun _ => some (kidsR ks false (t :: up.reverse))) (fun k => ?_) (Ev.now _); simp only [quillworkref16_normal.j6]; rw [if_neg h9]; exact kids_last M hM up hup2 t l tx ks hn k
theorem line_l1 (hup : 0 < up.length) : ∀ (i : Nat), i < up.length → Ev (fun k => quillworkref16_normal.l1 M k up (i : Int) t l tx ks) (!lineUp (up.take (i + 1)).reverse && (!(t == 9 && liUp up.reverse) && kidsR ks false (t :: up.reverse))) := by
 have h6 := nrm_j6 M hM up hup2 t l tx ks hn hup; intro i; induction i with
 | zero =>
  intro hi; have e : lineUp (up.take (0 + 1)).reverse = false := by rw [take_rev up 0 hi]; rfl
  rw [e, Bool.not_false, Bool.true_and]; refine Ev.step (fun k => ?_) h6; simp only [quillworkref16_normal.l1]; rw [if_neg (by decide)]
 | succ i ih =>
  intro hi; have c0 : ((i + 1 : Nat) : Int) > 0 := by omega
  have c1 : (0 : Int) ≤ ((i + 1 : Nat) : Int) := by omega
  have c2 : ((i + 1 : Nat) : Int) < (up.length : Int) := by omega
  have hw : wrap64 (((i + 1 : Nat) : Int) - 1) = (i : Int) := by rw [wrap64_of (by omega) (by omega)]; omega
  obtain ⟨y, r, e2⟩ := rev_two up i hi; have ih' := ih (by omega); rw [take_rev up (i + 1) hi]; rw [e2] at ih' ⊢; by_cases h25 : 2 ≤ up[i + 1] ∧ up[i + 1] ≤ 5
  ·have e : lineUp (up[i + 1] :: y :: r) = true := by unfold lineUp; rw [if_pos h25]
   rw [e, Bool.not_true, Bool.false_and]; refine Ev.step (f := fun k => quillworkref16_normal.j5 M k up ((i + 1 : Nat) : Int) true t l tx ks) (fun k => ?_) (Ev.step (f := fun _ => some false) (fun k => ?_) (Ev.now _))
   ·simp only [quillworkref16_normal.l1, if_pos c0, if_pos c1, if_pos c2, rd_of up (i + 1) hi]; rw [if_pos h25.1, decide_eq_true h25.2]
   ·simp [quillworkref16_normal.j5]
  ·have hl : ∀ k, quillworkref16_normal.l1 M (k + 1) up ((i + 1 : Nat) : Int) t l tx ks = quillworkref16_normal.j5 M k up ((i + 1 : Nat) : Int) false t l tx ks := fun k => by
    simp only [quillworkref16_normal.l1, if_pos c0, if_pos c1, if_pos c2, rd_of up (i + 1) hi]; by_cases h2 : 2 ≤ up[i + 1]
    ·rw [if_pos h2, decide_eq_false (fun h => h25 ⟨h2, h⟩)]
    ·rw [if_neg h2]
   have hj : ∀ k, quillworkref16_normal.j5 M (k + 1) up ((i + 1 : Nat) : Int) false t l tx ks = (quillworkref02_Class.f k up[i + 1]).bind fun t230 => (if t230 = 2 then (quillworkref16_normal.j6 M k up t l tx ks) else (if up[i + 1] = 9 then (quillworkref16_normal.j6 M k up t l tx ks) else (quillworkref16_normal.l1 M k up (i : Int) t l tx ks))) := fun k => by
    simp only [quillworkref16_normal.j5, if_pos c1, if_pos c2, rd_of up (i + 1) hi, hw]; rw [if_neg (by decide)]
   refine Ev.step hl (Ev.step hj (Ev.bind (refClass_ev up[i + 1]) (f := fun k t230 => (if t230 = 2 then (quillworkref16_normal.j6 M k up t l tx ks) else (if up[i + 1] = 9 then (quillworkref16_normal.j6 M k up t l tx ks) else (quillworkref16_normal.l1 M k up (i : Int) t l tx ks)))) ?_)); by_cases hc : tclass up[i + 1] = 2 ∨ up[i + 1] = 9
   ·have e : lineUp (up[i + 1] :: y :: r) = false := by unfold lineUp; rw [if_neg h25, if_pos hc]
    rw [e, Bool.not_false, Bool.true_and]; refine Ev.congr (fun k => ?_) h6; rcases hc with hc | hc
    ·rw [if_pos hc]
    ·rw [if_pos hc]; split <;> rfl
   ·have e : lineUp (up[i + 1] :: y :: r) = lineUp (y :: r) := by conv => lhs; unfold lineUp; rw [if_neg h25, if_neg hc]
    rw [e]; refine Ev.congr (fun k => ?_) ih'; rw [if_neg (fun h => hc (.inl h)), if_neg (fun h => hc (.inr h))]
theorem nrm_j2 (hup : 0 < up.length) (b : Bool) : Ev (fun k => quillworkref16_normal.j2 M k up (tclass t) b t l tx ks) (!b && (!((tclass t == 2 || tclass t == 3) && lineUp up.reverse) && (!(t == 9 && liUp up.reverse) && kidsR ks false (t :: up.reverse)))) := by
 have h6 := nrm_j6 M hM up hup2 t l tx ks hn hup; have hw : wrap64 ((up.length : Int) - 1) = ((up.length - 1 : Nat) : Int) := by rw [wrap64_of (by omega) (by omega)]; omega
 cases b
 ·rw [Bool.not_false, Bool.true_and]
  have h3 : ∀ c : Bool, c = (tclass t == 2 || tclass t == 3) → ∀ k, quillworkref16_normal.j2 M (k + 1) up (tclass t) false t l tx ks = quillworkref16_normal.j3 M k up c t l tx ks := fun c hc k => by
   simp only [quillworkref16_normal.j2]; rw [if_neg (by decide), hc]; by_cases h2 : tclass t = 2
   ·rw [if_pos h2, h2]; rfl
   ·rw [if_neg h2, show (tclass t == 2) = false by simp [h2], Bool.false_or]
  cases hc : (tclass t == 2 || tclass t == 3)
  ·rw [Bool.false_and, Bool.not_false, Bool.true_and]; refine Ev.step (h3 false hc.symm) (Ev.step (fun k => ?_) h6); simp only [quillworkref16_normal.j3]; rw [if_neg (by decide)]
  ·rw [Bool.true_and]; have h := line_l1 M hM up hup2 t l tx ks hn hup (up.length - 1) (by omega); rw [show up.length - 1 + 1 = up.length by omega, List.take_length] at h; refine Ev.step (h3 true hc.symm) (Ev.step (fun k => ?_) h); simp only [quillworkref16_normal.j3, hw, if_true]
 ·rw [Bool.not_true, Bool.false_and]; refine Ev.step (f := fun _ => some false) (fun k => ?_) (Ev.now _); simp [quillworkref16_normal.j2]
end
theorem last_rev (up : List Int) (h : 0 < up.length) : rd up ((up.length - 1 : Nat) : Int) = up.reverse.headD 0 := by
 rw [rd_of up (up.length - 1) (by omega)]; have := take_rev up (up.length - 1) (by omega); rw [show up.length - 1 + 1 = up.length by omega, List.take_length] at this; rw [this]; rfl
theorem refNormal_ev (M : Nat) (hM : M ≤ 70368744177664) (n : S25) (hn : nsz n ≤ M) (up : List Int) (hup : 0 < up.length) (hup2 : up.length ≤ 70368744177) : Ev (fun k => quillworkref16_normal.f M k n.f0 n.f1 n.f2 n.f3 up) (normR n up.reverse) := by
 obtain ⟨t, l, tx, ks⟩ := n; have hs := nsz_eq ⟨t, l, tx, ks⟩; have hal := asz_len l; simp only at hs hal ⊢; unfold normR; rw [List.length_reverse]; by_cases h40 : up.length ≤ 40
 case neg =>
  rw [decide_eq_false h40, Bool.false_and]; refine Ev.congr (f := fun _ => some false) (fun k => ?_) (Ev.now _); unfold quillworkref16_normal.f; rw [if_pos (by omega)]
 rw [decide_eq_true h40, Bool.true_and]; have hw : wrap64 ((up.length : Int) - 1) = ((up.length - 1 : Nat) : Int) := by rw [wrap64_of (by omega) (by omega)]; omega
 have c1 : (0 : Int) ≤ ((up.length - 1 : Nat) : Int) := by omega
 have c2 : ((up.length - 1 : Nat) : Int) < (up.length : Int) := by omega
 have c0 : ¬ ((up.length : Int) > 40) := by omega
 refine Ev.congr (fun k => ?_) (Ev.bind (refClass_ev t) (f := fun k t221 => (if t = 0 then (if (l.length : Int) > 0 then (quillworkref16_normal.j0 M k (up.reverse.headD 0) true t l tx ks) else (if (ks.length : Int) > 0 then (quillworkref16_normal.j0 M k (up.reverse.headD 0) true t l tx ks) else (if tx.toList = ([] : List UInt8) then (quillworkref16_normal.j0 M k (up.reverse.headD 0) true t l tx ks) else ((quillworkref08_Anew.f tx).bind fun t223 => (quillworkref16_normal.j0 M k (up.reverse.headD 0) (t223.toList != tx.toList) t l tx ks))))) else (if t221 = 0 then (quillworkref16_normal.j2 M k up t221 true t l tx ks) else (if tx.toList = ([] : List UInt8) then ((quillworkref03_May.f k l).bind fun t226 => (if t226 = true then (if t221 = 5 then (quillworkref16_normal.j2 M k up t221 (decide ((ks.length : Int) > 0)) t l tx ks) else (quillworkref16_normal.j2 M k up t221 false t l tx ks)) else (quillworkref16_normal.j2 M k up t221 true t l tx ks))) else (quillworkref16_normal.j2 M k up t221 true t l tx ks))))) ?_); ·unfold quillworkref16_normal.f; rw [if_neg c0]; simp only [hw, if_pos c1, if_pos c2, last_rev up hup]
 by_cases ht : t = 0
 ·rw [if_pos ht]; simp only [if_pos ht]; have hj : Ev (fun k => quillworkref16_normal.j0 M k (up.reverse.headD 0) true t l tx ks) false := Ev.step (f := fun _ => some false) (fun k => by simp [quillworkref16_normal.j0]) (Ev.now _); unfold textR; cases l with
  | cons a l =>
   rw [show (a :: l).isEmpty = false from rfl, Bool.false_and]; exact Ev.congr (fun k => by rw [if_pos (by simp <;> omega)]) hj
  | nil =>
   rw [show ([] : List S47).isEmpty = true from rfl, Bool.true_and]; cases ks with
   | cons a ks =>
    rw [show (a :: ks).isEmpty = false from rfl, Bool.false_and]; exact Ev.congr (fun k => by rw [if_neg (by simp), if_pos (by simp <;> omega)]) hj
   | nil =>
    rw [show ([] : List S25).isEmpty = true from rfl, Bool.true_and]; by_cases hx : tx.toList = []
    ·rw [show tx.toList.isEmpty = true by rw [hx]; rfl, Bool.not_true, Bool.false_and]; exact Ev.congr (fun k => by rw [if_neg (by simp), if_neg (by simp), if_pos hx]) hj
    ·have hx2 : tx.toList.isEmpty = false := by cases h : tx.toList with | nil => exact absurd h hx | cons a b => rfl
     rw [hx2, Bool.not_false, Bool.true_and]; have ha : quillworkref08_Anew.f tx = some (anewB tx) := by unfold quillworkref08_Anew.f; rw [if_pos (by simp at hs; omega)]
     by_cases he : anewB tx = tx
     ·rw [show ((anewB tx).toList == tx.toList) = true by rw [he]; exact beq_self_eq_true _, Bool.true_and]; have h := text_l0 M t [] tx [] (by simp at hs; omega) (up.reverse.headD 0) tx.size 0 true (by omega) (Nat.zero_le _); rw [List.drop_zero, Bool.true_and] at h; refine Ev.congr (fun k => by rw [if_neg (by simp), if_neg (by simp), if_neg hx, ha, Option.bind_some, he]) (Ev.step (fun k => ?_) h); simp only [quillworkref16_normal.j0]; rw [if_neg (by simp)]; rfl
     ·rw [show ((anewB tx).toList == tx.toList) = false by rw [beq_eq_false_iff_ne]; exact fun e => he (ba_toList_inj.1 e), Bool.false_and]; have hne : ((anewB tx).toList != tx.toList) = true := by rw [bne_iff_ne]; exact fun e => he (ba_toList_inj.1 e)
      exact Ev.congr (fun k => by rw [if_neg (by simp), if_neg (by simp), if_neg hx, ha, Option.bind_some, hne]) hj
 ·rw [if_neg ht]; simp only [if_neg ht]; have hj := fun b => nrm_j2 M hM up h40 t l tx ks hn hup b
  by_cases hc : tclass t = 0
  ·rw [show decide (tclass t ≠ 0) = false from decide_eq_false (fun h => h hc), Bool.false_and]; have := hj true; rw [Bool.not_true, Bool.false_and] at this; exact Ev.congr (fun k => by rw [if_pos hc]) this
  ·rw [show decide (tclass t ≠ 0) = true from decide_eq_true hc, Bool.true_and]; by_cases hx : tx.toList = []
   ·rw [show tx.toList.isEmpty = true by rw [hx]; rfl, Bool.true_and]; have hm := refMayA_ev l (by omega) (fun a ha => by have := asz_mem ha; omega); refine Ev.congr (fun k => by rw [if_neg hc, if_pos hx]) (Ev.bind hm (f := fun k t226 => (if t226 = true then (if tclass t = 5 then (quillworkref16_normal.j2 M k up (tclass t) (decide ((ks.length : Int) > 0)) t l tx ks) else (quillworkref16_normal.j2 M k up (tclass t) false t l tx ks)) else (quillworkref16_normal.j2 M k up (tclass t) true t l tx ks))) ?_); cases mayOk l
    ·rw [Bool.false_and]; have := hj true; rw [Bool.not_true, Bool.false_and] at this; exact Ev.congr (fun k => by rw [if_neg (by decide)]) this
    ·rw [Bool.true_and]; by_cases h5 : tclass t = 5
     ·have e : (tclass t == 5 && decide (0 < ks.length)) = decide ((ks.length : Int) > 0) := by
       rw [show (tclass t == 5) = true by simp [h5], Bool.true_and]; rw [Bool.eq_iff_iff, decide_eq_true_eq, decide_eq_true_eq]; omega
      rw [e]; exact Ev.congr (fun k => by rw [if_pos rfl, if_pos h5]) (hj _)
     ·have e : (tclass t == 5 && decide (0 < ks.length)) = false := by rw [show (tclass t == 5) = false by simp [h5], Bool.false_and]
      rw [e]; exact Ev.congr (fun k => by rw [if_pos rfl, if_neg h5]) (hj _)
   ·have hx2 : tx.toList.isEmpty = false := by cases h : tx.toList with | nil => exact absurd h hx | cons a b => rfl
    rw [hx2, Bool.false_and]; have := hj true; rw [Bool.not_true, Bool.false_and] at this; exact Ev.congr (fun k => by rw [if_neg hc, if_neg hx]) this
end Go.Proofs.YtbbikcmkcgoamaaDoor.Pp
namespace Go.Proofs.YtbbikcmkcgoamaaDoor.Pp
open Go.RowKit Go.Proofs.YtbbikcmkcgoamaaDoorW.PrintWords Go.Proofs.YtbbikcmkcgoamaaDoorW.PrintLast Go.Proofs.YtbbikcmkcgoamaaDoorW.PrintMore
def prevAt (ks : List S25) : Nat → Bool
 | 0 => false
 | i + 1 => (ks[i]?.map fun k => k.f0 == 0).getD false
theorem kids_l0 (M : Nat) (hM : M ≤ 70368744177664) (t : Int) (l : List S47) (tx : ByteArray) (ks : List S25) (hk : ∀ k ∈ ks, nsz k ≤ M) (hl : ks.length ≤ 9223372036854775807) (up : List Int) (hup : 0 < up.length) (hup2 : up.length ≤ 70368744177) :
 ∀ (n i : Nat), ks.length - i = n → i ≤ ks.length → Ev (fun k => quillworkref16_kids.l0 M k up (i : Int) t l tx ks) (kidsR (ks.drop i) (prevAt ks i) up.reverse) := by
 intro n; induction n with
 | zero =>
  intro i hi h2; rw [List.drop_of_length_le (by omega)]; refine Ev.step (f := fun _ => some true) (fun k => ?_) (Ev.now _); simp only [quillworkref16_kids.l0]; rw [if_neg (by omega)]
 | succ n ih =>
  intro i hi h2; have hlt : i < ks.length := by omega
  have c1 : (i : Int) < (ks.length : Int) := by omega
  have c2 : (0 : Int) ≤ (i : Int) := by omega
  have hw : wrap64 ((i : Int) + 1) = ((i + 1 : Nat) : Int) := wrap64_of (by omega) (by omega); have ih' := ih (i + 1) (by omega) (by omega)
  have hn : ∀ k, quillworkref16_normal_at M k ks[i].f0 ks[i].f1 ks[i].f2 ks[i].f3 up = some (normR ks[i] up.reverse) := fun k => by
   have key : ∀ q : S25, nsz q ≤ M → quillworkref16_normal_at M k q.f0 q.f1 q.f2 q.f3 up = some (normR q up.reverse) := fun q hq => by
    cases q
    unfold quillworkref16_normal_at; rw [if_pos ⟨hq, hM, hup, hup2⟩]
   exact key _ (hk ks[i] (List.getElem_mem hlt))
  rw [List.drop_eq_getElem_cons hlt]; have hp : prevAt ks (i + 1) = (ks[i].f0 == 0) := by simp [prevAt, List.getElem?_eq_getElem hlt]
  rw [hp] at ih'; unfold kidsR
  have rest : ∀ k, ((quillworkref16_normal_at M k ks[i].f0 ks[i].f1 ks[i].f2 ks[i].f3 up).bind fun t265 => (if t265 = true then (quillworkref16_kids.l0 M k up (wrap64 ((i : Int) + 1)) t l tx ks) else (some false))) = if normR ks[i] up.reverse = true then quillworkref16_kids.l0 M k up ((i + 1 : Nat) : Int) t l tx ks else some false := fun k => by
   rw [hn k, Option.bind_some, hw]
  have fin : Ev (fun k => if normR ks[i] up.reverse = true then quillworkref16_kids.l0 M k up ((i + 1 : Nat) : Int) t l tx ks else some false) (normR ks[i] up.reverse && kidsR (ks.drop (i + 1)) (ks[i].f0 == 0) up.reverse) := by
   cases normR ks[i] up.reverse
   ·rw [Bool.false_and]; exact Ev.congr (fun k => rfl) (Ev.now _)
   ·rw [Bool.true_and]; exact Ev.congr (fun k => by rw [if_pos rfl]) ih'
  cases i with
  | zero =>
   rw [show prevAt ks 0 = false from rfl, Bool.false_and, Bool.not_false, Bool.true_and]; refine Ev.step (fun k => ?_) fin; simp only [quillworkref16_kids.l0, if_pos c1, if_pos c2, rd25_of ks 0 hlt]; rw [if_neg (by decide)]; exact rest k
  | succ j =>
   have hj : j < ks.length := by omega
   have hwj : wrap64 (((j + 1 : Nat) : Int) - 1) = (j : Int) := by rw [wrap64_of (by omega) (by omega)]; omega
   have d1 : (0 : Int) ≤ (j : Int) := by omega
   have d2 : (j : Int) < (ks.length : Int) := by omega
   have d3 : ((j + 1 : Nat) : Int) > 0 := by omega
   rw [show prevAt ks (j + 1) = (ks[j].f0 == 0) by simp [prevAt, List.getElem?_eq_getElem hj]]; by_cases h0 : ks[j + 1].f0 = 0
   ·by_cases hq : ks[j].f0 = 0
    ·rw [show (ks[j].f0 == 0) = true by simp [hq], show (ks[j + 1].f0 == 0) = true by simp [h0], Bool.true_and, Bool.not_true, Bool.false_and]; refine Ev.step (f := fun _ => some false) (fun k => ?_) (Ev.now _); simp only [quillworkref16_kids.l0, if_pos c1, if_pos c2, if_pos d3, rd25_of ks (j + 1) hlt, if_pos h0, hwj, if_pos d1, if_pos d2, rd25_of ks j hj, if_pos hq]
    ·rw [show (ks[j].f0 == 0) = false by simp [hq], Bool.false_and, Bool.not_false, Bool.true_and]; refine Ev.step (fun k => ?_) fin; simp only [quillworkref16_kids.l0, if_pos c1, if_pos c2, if_pos d3, rd25_of ks (j + 1) hlt, if_pos h0, hwj, if_pos d1, if_pos d2, rd25_of ks j hj, if_neg hq]; exact rest k
   ·rw [show (ks[j + 1].f0 == 0) = false by simp [h0], Bool.and_false, Bool.not_false, Bool.true_and]; have fin2 := fin; rw [show (ks[j + 1].f0 == 0) = false by simp [h0]] at fin2; refine Ev.step (fun k => ?_) fin2; simp only [quillworkref16_kids.l0, if_pos c1, if_pos c2, if_pos d3, rd25_of ks (j + 1) hlt, if_neg h0]; exact rest k
theorem refKids_ev (M : Nat) (hM : M ≤ 70368744177664) (t : Int) (l : List S47) (tx : ByteArray) (ks : List S25) (hk : ∀ k ∈ ks, nsz k ≤ M) (hl : ks.length ≤ 9223372036854775807) (up : List Int) (hup : 0 < up.length) (hup2 : up.length ≤ 70368744177) :
 Ev (fun k => quillworkref16_kids.f M k t l tx ks up) (kidsR ks false up.reverse) := by
 have := kids_l0 M hM t l tx ks hk hl up hup hup2 ks.length 0 (by simp) (Nat.zero_le _); simpa [quillworkref16_kids.f, prevAt] using this
def PK (M : Nat) : Prop := ∀ (k : Nat) (a0_0 : Int) (A0_1 : Option Addr) (c0_1 : Nat) (l0_1 : List S47) (a0_2 : ByteArray) (A0_3 : Option Addr) (c0_3 : Nat) (l0_3 : List S25) (A1 : Option Addr) (c1 : Nat) (l1 : List Int) (r : Bool) (w : World), Kd.C k47 w A0_1 l0_1.length l0_1 → l0_1.length ≤ c0_1 → Kd.C k25 w A0_3 l0_3.length l0_3 → l0_3.length ≤ c0_3 → (Kd.int .i64).C w A1 l1.length l1 → l1.length ≤ c1 → quillworkref16_kids_at M k a0_0 l0_1 a0_2 l0_3 l1 = some r →
 Calls Tryd.prog 25 #[.agg #[.int .i64 a0_0, .slice A0_1 l0_1.length c0_1, .string a0_2, .slice A0_3 l0_3.length c0_3], .slice A1 l1.length c1] w fun e w' => e = .returned (.bool r) ∧ Below w.heap.size w w'
def PN (M : Nat) : Prop := ∀ (k : Nat) (a0_0 : Int) (A0_1 : Option Addr) (c0_1 : Nat) (l0_1 : List S47) (a0_2 : ByteArray) (A0_3 : Option Addr) (c0_3 : Nat) (l0_3 : List S25) (A1 : Option Addr) (c1 : Nat) (l1 : List Int) (r : Bool) (w : World), Kd.C k47 w A0_1 l0_1.length l0_1 → l0_1.length ≤ c0_1 → Kd.C k25 w A0_3 l0_3.length l0_3 → l0_3.length ≤ c0_3 → (Kd.int .i64).C w A1 l1.length l1 → l1.length ≤ c1 → quillworkref16_normal_at M k a0_0 l0_1 a0_2 l0_3 l1 = some r →
 Calls Tryd.prog 34 #[.agg #[.int .i64 a0_0, .slice A0_1 l0_1.length c0_1, .string a0_2, .slice A0_3 l0_3.length c0_3], .slice A1 l1.length c1] w fun e w' => e = .returned (.bool r) ∧ Below w.heap.size w w'
theorem pn_of_pk (M : Nat) (h : PK M) : PN M := by
 intro k a0_0 A0_1 c0_1 l0_1 a0_2 A0_3 c0_3 l0_3 A1 c1 l1 r w h1 h2 h3 h4 h5 h6 hr; unfold quillworkref16_normal_at at hr; split at hr
 ·rename_i hc
  obtain ⟨q1, q2, q3, q4⟩ := hc; obtain rfl := Option.some.inj hr; obtain ⟨K, hK⟩ := refNormal_ev M q2 ⟨a0_0, l0_1, a0_2, l0_3⟩ q1 l1 q3 q4; exact quillworkref16_normal.calls M ⟨h⟩ K a0_0 A0_1 c0_1 l0_1 a0_2 A0_3 c0_3 l0_3 A1 c1 l1 _ w h1 h2 h3 h4 h5 h6 (hK K (Nat.le_refl _))
 ·cases hr
theorem pk_of_pn (M : Nat) (h : PN M) : PK (M + 1) := by
 intro k a0_0 A0_1 c0_1 l0_1 a0_2 A0_3 c0_3 l0_3 A1 c1 l1 r w h1 h2 h3 h4 h5 h6 hr; unfold quillworkref16_kids_at at hr; split at hr
 ·rename_i hc
  obtain ⟨q1, q2, q3, q4⟩ := hc; obtain rfl := Option.some.inj hr; have hs := nsz_eq ⟨a0_0, l0_1, a0_2, l0_3⟩; simp only at hs; obtain ⟨K, hK⟩ := refKids_ev M (by omega) a0_0 l0_1 a0_2 l0_3 (fun x hx => by have := nszK_mem hx; omega) h3.2.1 l1 q3 q4; exact quillworkref16_kids.calls M ⟨h⟩ K a0_0 A0_1 c0_1 l0_1 a0_2 A0_3 c0_3 l0_3 A1 c1 l1 _ w h1 h2 h3 h4 h5 h6 (hK K (Nat.le_refl _))
 ·cases hr
theorem pk_all : ∀ M, PK M
 | 0 => by
  intro k a0_0 A0_1 c0_1 l0_1 a0_2 A0_3 c0_3 l0_3 A1 c1 l1 r w h1 h2 h3 h4 h5 h6 hr; unfold quillworkref16_kids_at at hr; rw [if_neg (fun h => by have := nsz_pos ⟨a0_0, l0_1, a0_2, l0_3⟩; omega)] at hr; cases hr
 | M + 1 => pk_of_pn M (pn_of_pk M (pk_all M))
theorem ints_kids (l : List S25) (i : Nat) (h : i < l.length) : ints (kidsP (l.take (i + 1))) = ints (kidsP (l.take i)) ++ ints (nodeP l[i]) := by rw [kidsP_take l i h, ints_append]
theorem inner_l0 (M : Nat) (hM : M ≤ 1000000000000) (t : Int) (ht : t ≠ 0) (l : List S47) (tx : ByteArray) (ks : List S25) (hk : ∀ k ∈ ks, nsz k ≤ M) (hz : (kidsP ks).length ≤ 100000000000000) (hl : ks.length ≤ 9223372036854775807) :
 ∀ (n i : Nat), ks.length - i = n → i ≤ ks.length → Ev (fun k => quillworkref16_Inner.l0 M k (ints (kidsP (ks.take i))) (i : Int) t l tx ks) (ints (kidsP ks)) := by
 intro n; induction n with
 | zero =>
  intro i hi h2; obtain rfl : i = ks.length := by omega
  refine Ev.step (f := fun _ => some (ints (kidsP ks))) (fun k => ?_) (Ev.now _); simp only [quillworkref16_Inner.l0]; rw [if_neg (by omega), List.take_length]
 | succ n ih =>
  intro i hi h2; have hlt : i < ks.length := by omega
  have c1 : (i : Int) < (ks.length : Int) := by omega
  have c2 : (0 : Int) ≤ (i : Int) := by omega
  have hw : wrap64 ((i : Int) + 1) = ((i + 1 : Nat) : Int) := wrap64_of (by omega) (by omega); have ih' := ih (i + 1) (by omega) (by omega)
  have key : ∀ (q : S25) (k : Nat), nsz q ≤ M → quillworkref16_Outer_at M k q.f0 q.f1 q.f2 q.f3 = some (ints (nodeP q)) := fun q k hq => by
   cases q
   unfold quillworkref16_Outer_at; rw [if_pos ⟨hq, hM⟩]
  have hle := kidsP_take_le ks (i + 1); have hn := fun k => key ks[i] k (hk ks[i] (List.getElem_mem hlt))
  have ek := ints_kids ks i hlt; have el := congrArg List.length ek; rw [ints_len, List.length_append, ints_len, ints_len] at el; refine Ev.step (fun k => ?_) ih'; simp only [quillworkref16_Inner.l0, if_pos c1, if_neg ht, if_pos c2, rd25_of ks i hlt, hn k, Option.bind_some, hw]; rw [if_pos (by rw [ints_len, ints_len]; omega), ek]
theorem refInner_ev (M : Nat) (hM : M ≤ 1000000000000) (n : S25) (hk : ∀ k ∈ n.f3, nsz k ≤ M) (hz : nsz n ≤ 1000000000000) : Ev (fun k => quillworkref16_Inner.f M k n.f0 n.f1 n.f2 n.f3) (ints (innerP n)) := by
 have hlen := kidsP_len_n n; have hs := nsz_eq n; have hkl := nszK_len n.f3; unfold innerP; by_cases h0 : n.f0 = 0
 ·rw [if_pos h0]; refine Ev.step (f := fun _ => some []) (fun k => ?_) (Ev.now _); unfold quillworkref16_Inner.f; simp only [quillworkref16_Inner.l0, if_pos h0]; split <;> rfl
 ·rw [if_neg h0]; have := inner_l0 M hM n.f0 h0 n.f1 n.f2 n.f3 hk (by omega) (by omega) n.f3.length 0 (by simp) (Nat.zero_le _); exact Ev.congr (fun k => rfl) this
def PO (M : Nat) : Prop := ∀ (k : Nat) (a0_0 : Int) (A0_1 : Option Addr) (c0_1 : Nat) (l0_1 : List S47) (a0_2 : ByteArray) (A0_3 : Option Addr) (c0_3 : Nat) (l0_3 : List S25) (r : List Int) (w : World) (hr0_1 : Kd.C k47 w A0_1 l0_1.length l0_1) (hc0_1 : l0_1.length ≤ c0_1) (hr0_3 : Kd.C k25 w A0_3 l0_3.length l0_3) (hc0_3 : l0_3.length ≤ c0_3) (h : quillworkref16_Outer_at M k a0_0 l0_1 a0_2 l0_3 = some r), Calls Tryd.prog 9 #[.agg #[.int .i64 a0_0, .slice A0_1 l0_1.length c0_1, .string a0_2, .slice A0_3 l0_3.length c0_3]] w fun e w' => ∃ (A : Option Addr) (c : Nat), e = .returned (.slice A r.length c) ∧ (Kd.int .u8).C w' A r.length r ∧ Below w.heap.size w w'
def PI (M : Nat) : Prop := ∀ (k : Nat) (a0_0 : Int) (A0_1 : Option Addr) (c0_1 : Nat) (l0_1 : List S47) (a0_2 : ByteArray) (A0_3 : Option Addr) (c0_3 : Nat) (l0_3 : List S25) (r : List Int) (w : World) (hr0_1 : Kd.C k47 w A0_1 l0_1.length l0_1) (hc0_1 : l0_1.length ≤ c0_1) (hr0_3 : Kd.C k25 w A0_3 l0_3.length l0_3) (hc0_3 : l0_3.length ≤ c0_3) (h : quillworkref16_Inner_at M k a0_0 l0_1 a0_2 l0_3 = some r), Calls Tryd.prog 11 #[.agg #[.int .i64 a0_0, .slice A0_1 l0_1.length c0_1, .string a0_2, .slice A0_3 l0_3.length c0_3]] w fun e w' => ∃ v0_ : Value, e = .returned v0_ ∧ Kd.R (Kd.int .u8) 5 w' w.heap.size (fun _ => True) v0_ r ∧ Below w.heap.size w w'
theorem refClass_calls (t : Int) (v : World) : Calls Tryd.prog 20 #[.int .i64 t] v fun e w' => e = .returned (.int .i64 (tclass t)) ∧ Below v.heap.size v w' :=
 (quillworkref02_Class.calls 4 t _ v (refClass_eq 0 t)).mono fun e w' h => by
  obtain ⟨h1, n, rfl⟩ := h; exact ⟨h1, pw_below_drewN (Below.refl _ _) n⟩
theorem po_of_pi (M : Nat) (h : PI M) : PO M := by
 intro k a0_0 A0_1 c0_1 l0_1 a0_2 A0_3 c0_3 l0_3 r w h1 h2 h3 h4 hr; unfold quillworkref16_Outer_at at hr; split at hr
 ·rename_i hc
  obtain rfl := Option.some.inj hr
  exact outer_walk ⟨a0_0, l0_1, a0_2, l0_3⟩ (by omega) w A0_1 c0_1 A0_3 c0_3 h1 h2 h3 h4
   ⟨fun v hb => h 0 a0_0 A0_1 c0_1 l0_1 a0_2 A0_3 c0_3 l0_3 _ v (Kd.C_below h1 hb) h2 (Kd.C_below h3 hb) h4 (by unfold quillworkref16_Inner_at; rw [if_pos hc])⟩
   ⟨fun s q v hs => refChars_calls s q v hs⟩ ⟨fun t v => refClass_calls t v⟩
 ·cases hr
theorem pi_of_po (M : Nat) (h : PO M) : PI (M + 1) := by
 intro k a0_0 A0_1 c0_1 l0_1 a0_2 A0_3 c0_3 l0_3 r w h1 h2 h3 h4 hr; unfold quillworkref16_Inner_at at hr; split at hr
 ·rename_i hc
  obtain ⟨q1, q2⟩ := hc; obtain rfl := Option.some.inj hr; have hs := nsz_eq ⟨a0_0, l0_1, a0_2, l0_3⟩; simp only at hs; obtain ⟨K, hK⟩ := refInner_ev M (by omega) ⟨a0_0, l0_1, a0_2, l0_3⟩ (fun x hx => by have hm : nsz x ≤ nszK l0_3 := nszK_mem hx; omega) (by omega); exact quillworkref16_Inner.calls M ⟨h⟩ K a0_0 A0_1 c0_1 l0_1 a0_2 A0_3 c0_3 l0_3 _ w h1 h2 h3 h4 (hK K (Nat.le_refl _))
 ·cases hr
theorem pi_all : ∀ M, PI M
 | 0 => by
  intro k a0_0 A0_1 c0_1 l0_1 a0_2 A0_3 c0_3 l0_3 r w h1 h2 h3 h4 hr; unfold quillworkref16_Inner_at at hr; rw [if_neg (fun h => by have := nsz_pos ⟨a0_0, l0_1, a0_2, l0_3⟩; omega)] at hr; cases hr
 | M + 1 => pi_of_po M (po_of_pi M (pi_all M))
def CopyEv (n : S25) : Prop := Ev (fun k => quillworkref08_CopyNode.f k n.f0 n.f1 n.f2 n.f3) (n.f0, n.f1, n.f2, n.f3)
theorem copy_l0 (t : Int) (l : List S47) (tx : ByteArray) (ks : List S25) (hk : ∀ k ∈ ks, CopyEv k) (hl : ks.length ≤ 1000000000000) :
 ∀ (n i : Nat), ks.length - i = n → i ≤ ks.length → Ev (fun k => quillworkref08_CopyNode.l0 k (ks.take i) (i : Int) t l tx ks) (t, l, tx, ks) := by
 intro n; induction n with
 | zero =>
  intro i hi h2; obtain rfl : i = ks.length := by omega
  refine Ev.step (f := fun _ => some (t, l, tx, ks)) (fun k => ?_) (Ev.now _); simp only [quillworkref08_CopyNode.l0]; rw [if_neg (by omega), List.take_length]
 | succ n ih =>
  intro i hi h2; have hlt : i < ks.length := by omega
  have c1 : (i : Int) < (ks.length : Int) := by omega
  have c2 : (0 : Int) ≤ (i : Int) := by omega
  have hw : wrap64 ((i : Int) + 1) = ((i + 1 : Nat) : Int) := wrap64_of (by omega) (by omega); have ih' := ih (i + 1) (by omega) (by omega); have hc := hk ks[i] (List.getElem_mem hlt); have hlen : (ks.take i).length < 1954687338268 := by rw [List.length_take]; omega
  refine Ev.step (fun k => ?_) (Ev.bind hc (f := fun k bt144 => (if (ks.take i).length < 1954687338268 then (quillworkref08_CopyNode.l0 k (ks.take i ++ [(⟨bt144.1, bt144.2.1, bt144.2.2.1, bt144.2.2.2⟩ : S25)]) (wrap64 ((i : Int) + 1)) t l tx ks) else (none))) ?_); ·simp only [quillworkref08_CopyNode.l0, if_pos c1, if_pos c2, rd25_of ks i hlt]
  ·refine Ev.congr (fun k => ?_) ih'; rw [if_pos hlen, hw, List.take_succ_eq_append_getElem hlt]; have eta : ∀ q : S25, (⟨q.f0, q.f1, q.f2, q.f3⟩ : S25) = q := fun q => by cases q; rfl
   rw [eta]
theorem copy_ev : ∀ (N : Nat) (n : S25), nsz n ≤ N → N ≤ 1000000000000 → CopyEv n := by
 intro N; induction N with
 | zero => intro n h; have := nsz_pos n; omega
 | succ N ih =>
  intro n h hN; have hs := nsz_eq n; have hl1 := asz_len n.f1; have hl3 := nszK_len n.f3; have h0 := copy_l0 n.f0 n.f1 n.f2 n.f3 (fun k hk => ih k (by have := nszK_mem hk; omega) (by omega)) (by omega) n.f3.length 0 (by simp) (Nat.zero_le _); unfold CopyEv; refine Ev.step (fun k => ?_) h0; simp only [quillworkref08_CopyNode.f, Option.bind_some, List.nil_append, List.length_nil]; rw [if_pos (by omega)]; rfl
mutual
def cntN : S25 → Nat
 | ⟨_, _, _, ks⟩ => 1 + cntK ks
def cntK : List S25 → Nat
 | [] => 0
 | k :: ks => cntN k + cntK ks
end
theorem cntN_eq (n : S25) : cntN n = 1 + cntK n.f3 := by cases n; simp only [cntN]
theorem cntK_append : ∀ (a b : List S25), cntK (a ++ b) = cntK a + cntK b
 | [], b => by simp [cntK]
 | k :: a, b => by simp only [List.cons_append, cntK, cntK_append a b]; omega
mutual
theorem cntN_le : ∀ n : S25, cntN n ≤ nsz n
 | ⟨_, _, _, ks⟩ => by have := cntK_le ks; simp only [cntN, nsz]; omega
theorem cntK_le : ∀ l : List S25, cntK l ≤ nszK l
 | [] => by simp [cntK]
 | k :: ks => by have := cntN_le k; have := cntK_le ks; simp only [cntK, nszK]; omega
end
def SizeEv (n : S25) : Prop := Ev (fun k => quillworkref08_Size.f k n.f0 n.f1 n.f2 n.f3) (cntN n : Int)
theorem size_l0 (t : Int) (l : List S47) (tx : ByteArray) (ks : List S25) (hk : ∀ k ∈ ks, SizeEv k) (hl : ks.length ≤ 1000000000000) (hz : cntK ks ≤ 1000000000000) :
 ∀ (n i : Nat), ks.length - i = n → i ≤ ks.length → Ev (fun k => quillworkref08_Size.l0 k ((1 + cntK (ks.take i) : Nat) : Int) (i : Int) t l tx ks) ((1 + cntK ks : Nat) : Int) := by
 intro n; induction n with
 | zero =>
  intro i hi h2; obtain rfl : i = ks.length := by omega
  refine Ev.step (f := fun _ => some ((1 + cntK ks : Nat) : Int)) (fun k => ?_) (Ev.now _); simp only [quillworkref08_Size.l0]; rw [if_neg (by omega), List.take_length]
 | succ n ih =>
  intro i hi h2; have hlt : i < ks.length := by omega
  have c1 : (i : Int) < (ks.length : Int) := by omega
  have c2 : (0 : Int) ≤ (i : Int) := by omega
  have hw : wrap64 ((i : Int) + 1) = ((i + 1 : Nat) : Int) := wrap64_of (by omega) (by omega); have ih' := ih (i + 1) (by omega) (by omega); have hc := hk ks[i] (List.getElem_mem hlt); have e1 : cntK (ks.take (i + 1)) = cntK (ks.take i) + cntN ks[i] := by rw [List.take_succ_eq_append_getElem hlt, cntK_append]; simp [cntK]
  have e2 : cntK (ks.take (i + 1)) ≤ cntK ks := by
   have h : cntK ks = cntK (ks.take (i + 1) ++ ks.drop (i + 1)) := by rw [List.take_append_drop]
   rw [h, cntK_append]; omega
  have hw2 : wrap64 (((1 + cntK (ks.take i) : Nat) : Int) + (cntN ks[i] : Int)) = ((1 + cntK (ks.take (i + 1)) : Nat) : Int) := by rw [wrap64_of (by omega) (by omega)]; omega
  refine Ev.step (fun k => ?_) (Ev.bind hc (f := fun k t167 => (quillworkref08_Size.l0 k (wrap64 (((1 + cntK (ks.take i) : Nat) : Int) + t167)) (wrap64 ((i : Int) + 1)) t l tx ks)) (Ev.congr (fun k => by rw [hw, hw2]) ih')); simp only [quillworkref08_Size.l0, if_pos c1, if_pos c2, rd25_of ks i hlt]
theorem size_ev : ∀ (N : Nat) (n : S25), nsz n ≤ N → N ≤ 1000000000000 → SizeEv n := by
 intro N; induction N with
 | zero => intro n h; have := nsz_pos n; omega
 | succ N ih =>
  intro n h hN; have hs := nsz_eq n; have hl3 := nszK_len n.f3; have hc := cntK_le n.f3; have h0 := size_l0 n.f0 n.f1 n.f2 n.f3 (fun k hk => ih k (by have := nszK_mem hk; omega) (by omega)) (by omega) (by omega) n.f3.length 0 (by simp) (Nat.zero_le _); unfold SizeEv; rw [cntN_eq]; refine Ev.step (fun k => ?_) h0; simp only [quillworkref08_Size.f]; rfl
theorem dropWhile_nil {α : Type} (p : α → Bool) : ∀ l : List α, l.dropWhile p = [] ↔ ∀ b ∈ l, p b = true
 | [] => by simp
 | a :: l => by
  rw [List.dropWhile_cons]; cases h : p a
  ·simp [h]
  ·simp only [if_true, List.mem_cons, forall_eq_or_imp, h, true_and]; exact dropWhile_nil p l
theorem trim_empty (l cs : List UInt8) : Lib.trimS l cs = [] ↔ ∀ b ∈ l, cs.contains b = true := by
 unfold Lib.trimS Lib.trimLeftS Lib.trimRightS; constructor
 ·intro h; cases hr : l.reverse.dropWhile (cs.contains ·) with
  | nil =>
   intro b hb; have h2 := (dropWhile_nil _ _).1 hr; exact h2 b (List.mem_reverse.2 hb)
  | cons x r =>
   rw [hr] at h; have h2 := (dropWhile_nil _ _).1 h x (by simp)
   have h3 : ∀ (m : List UInt8), m.dropWhile (cs.contains ·) = x :: r → cs.contains x = false := by
    intro m; induction m with
    | nil => intro e; simp at e
    | cons a m ih =>
     intro e; rw [List.dropWhile_cons] at e; split at e
     ·exact ih e
     ·rename_i ha
      injection e with e1 e2
      subst e1; simpa using ha
   rw [h3 _ hr] at h2; cases h2
 ·intro h; have h1 : l.reverse.dropWhile (cs.contains ·) = [] := (dropWhile_nil _ _).2 (fun b hb => h b (List.mem_reverse.1 hb)); rw [h1]; rfl
theorem trimP_blank (tx : ByteArray) : (trimP tx).toList.isEmpty = tx.data.toList.all blankB := by
 have e1 : (trimP tx).toList = Lib.trimS tx.data.toList blanksC.data.toList := by unfold trimP; simp [ByteArray.toList_eq]
 rw [e1, Bool.eq_iff_iff, List.isEmpty_iff, trim_empty, List.all_eq_true]
 have e2 : ∀ b : UInt8, (blanksC.data.toList.contains b = true) ↔ blankB b = true := fun b => by
  unfold blanksC blankB; simp only [List.contains_cons, List.contains_nil, Bool.or_eq_true, beq_iff_eq, Bool.or_false]; constructor
  ·rintro (h | h | h | h | h) <;> simp [h]
  ·rintro ((((h | h) | h) | h) | h) <;> simp [h]
 exact ⟨fun h b hb => (e2 b).1 (h b hb), fun h b hb => (e2 b).2 (h b hb)⟩
theorem textOk_eq (t : Int) (l : List S47) (tx : ByteArray) (ks : List S25) (box : Bool) : textOk ⟨t, l, tx, ks⟩ box = textR l tx ks box := by
 unfold textOk textR; simp only; rw [trimP_blank]; have e1 : decide (l.length = 0) = l.isEmpty := by cases l <;> simp
 have e3 : decide (ks.length = 0) = ks.isEmpty := by cases ks <;> simp
 rw [e1, e3, Bool.and_comm box]
theorem inLine_up (t y : Int) (r : List Int) : inLine t (lineUp (y :: r)) = lineUp (t :: y :: r) := by
 unfold inLine; conv => rhs; unfold lineUp
 by_cases h : 0 ≤ t ∧ t ≤ 16
 ·have ht : t = 0 ∨ t = 1 ∨ t = 2 ∨ t = 3 ∨ t = 4 ∨ t = 5 ∨ t = 6 ∨ t = 7 ∨ t = 8 ∨ t = 9 ∨ t = 10 ∨ t = 11 ∨ t = 12 ∨ t = 13 ∨ t = 14 ∨ t = 15 ∨ t = 16 := by omega
  rcases ht with rfl | rfl | rfl | rfl | rfl | rfl | rfl | rfl | rfl | rfl | rfl | rfl | rfl | rfl | rfl | rfl | rfl <;> rfl
 ·have hc : tclass t = 0 := by unfold tclass; rw [if_neg h]
  rw [hc, if_neg (by decide), if_neg (by omega), if_neg (by omega)]
theorem inLi_up (t y : Int) (r : List Int) : inLi t (liUp (y :: r)) = liUp (t :: y :: r) := by
 unfold inLi; conv => rhs; unfold liUp
 by_cases h : 0 ≤ t ∧ t ≤ 16
 ·have ht : t = 0 ∨ t = 1 ∨ t = 2 ∨ t = 3 ∨ t = 4 ∨ t = 5 ∨ t = 6 ∨ t = 7 ∨ t = 8 ∨ t = 9 ∨ t = 10 ∨ t = 11 ∨ t = 12 ∨ t = 13 ∨ t = 14 ∨ t = 15 ∨ t = 16 := by omega
  generalize liUp (y :: r) = b; rcases ht with rfl | rfl | rfl | rfl | rfl | rfl | rfl | rfl | rfl | rfl | rfl | rfl | rfl | rfl | rfl | rfl | rfl <;> cases b <;> rfl
 ·have hc : tclass t = 0 := by unfold tclass; rw [if_neg h]
  rw [hc, if_neg (by decide), if_neg (by omega), if_neg (by omega)]
def Says (p : Bool × Nat) (b : Bool) (c m : Nat) : Prop := p.1 = (b && decide (c + m ≤ 2000)) ∧ (p.1 = true → p.2 = c + m)
theorem Says.no {n c m : Nat} {b : Bool} (h : b = false ∨ 2000 < c + m) : Says (false, n) b c m := by
 refine ⟨?_, fun h => by cases h⟩; rcases h with h | h
 ·rw [h]; rfl
 ·rw [decide_eq_false (by omega), Bool.and_false]
mutual
theorem look_norm : ∀ (n : S25) (y : Int) (r : List Int) (c : Nat), c ≤ 2000 → Says (lookN n (r.length + 1) (tclass y == 2) (lineUp (y :: r)) (liUp (y :: r)) c) (normR n (y :: r)) c (cntN n)
 | ⟨t, l, tx, ks⟩, y, r, c, hc => by
  unfold lookN normR; rw [cntN_eq]; simp only [List.length_cons, List.headD_cons]; by_cases h1 : 2000 < c + 1 ∨ 40 < r.length + 1
  ·rw [if_pos h1]; refine Says.no ?_; rcases h1 with h1 | h1
   ·exact .inr (by omega)
   ·left; rw [show decide (r.length + 1 ≤ 40) = false from decide_eq_false (by omega), Bool.false_and]
  rw [if_neg h1, show decide (r.length + 1 ≤ 40) = true from decide_eq_true (by omega), Bool.true_and]; by_cases h0 : tclass t = 0
  ·rw [if_pos h0]; have ht : t ≠ 0 := by rintro rfl; rw [tclass_zero] at h0; omega
   rw [if_neg ht, show decide (tclass t ≠ 0) = false from decide_eq_false (fun h => h h0), Bool.false_and]; exact Says.no (.inl rfl)
  rw [if_neg h0]; by_cases ht : tclass t = 1
  ·have e := tclass_text ht; rw [if_pos ht, if_pos e, textOk_eq]; cases hb : textR l tx ks (tclass y == 2)
   ·exact Says.no (.inl rfl)
   ·have hk : ks = [] := by
     unfold textR at hb; simp only [Bool.and_eq_true, List.isEmpty_iff] at hb; exact hb.2.1
    subst hk; have e0 : cntK ([] : List S25) = 0 := rfl; rw [e0]; refine ⟨?_, fun _ => rfl⟩; rw [show decide (c + (1 + 0) ≤ 2000) = true from decide_eq_true (by omega)]; rfl
  have ht0 : t ≠ 0 := by rintro rfl; exact ht tclass_zero
  rw [if_neg ht, if_neg ht0, show decide (tclass t ≠ 0) = true from decide_eq_true h0, Bool.true_and]; by_cases h5 : tclass t = 5
  ·rw [if_pos h5]
   have h9 : (t == 9) = false := by
    rw [beq_eq_false_iff_ne]; rintro rfl; exact absurd h5 (by decide)
   rw [h5, h9]; simp only [Bool.false_and, Bool.not_false, Bool.true_and, beq_self_eq_true, show ((5 : Int) == 2) = false from rfl, show ((5 : Int) == 3) = false from rfl, Bool.or_self]; cases ks with
   | nil =>
    simp only [List.length_nil, decide_true, Bool.and_true, Nat.lt_irrefl, decide_false, Bool.not_false, kidsR, cntK]; refine ⟨?_, fun _ => rfl⟩; simp only; rw [decide_eq_true (show c + (1 + 0) ≤ 2000 by omega), Bool.and_true]
   | cons k ks =>
    have e1 : decide ((k :: ks).length = 0) = false := decide_eq_false (by simp); have e2 : decide (0 < (k :: ks).length) = true := decide_eq_true (by simp); rw [e1, e2]; simp only [Bool.and_false, Bool.not_true, Bool.false_and]; exact Says.no (.inl rfl)
  rw [if_neg h5, show (tclass t == 5) = false by simp [h5], Bool.false_and, Bool.not_false, Bool.true_and]; by_cases h3 : (tclass t = 3 ∨ tclass t = 2) ∧ (lineUp (y :: r) || (t == 9 && liUp (y :: r))) = true
  ·rw [if_pos h3]; refine Says.no (.inl ?_); have hcl : (tclass t == 2 || tclass t == 3) = true := by rcases h3.1 with h | h <;> rw [h] <;> rfl
   rw [hcl, Bool.true_and]; have hx := h3.2; cases hl : lineUp (y :: r)
   ·rw [hl, Bool.false_or] at hx; rw [hx]; simp
   ·simp
  rw [if_neg h3]
  have hrest : (!((tclass t == 2 || tclass t == 3) && lineUp (y :: r)) && (!(t == 9 && liUp (y :: r)) && kidsR ks false (t :: y :: r))) = kidsR ks false (t :: y :: r) := by
   by_cases hcl : tclass t = 3 ∨ tclass t = 2
   ·have hx : ¬ (lineUp (y :: r) || (t == 9 && liUp (y :: r))) = true := fun h => h3 ⟨hcl, h⟩
    simp only [Bool.or_eq_true, not_or, Bool.not_eq_true] at hx; rw [hx.1, hx.2]; simp
   ·have e1 : (tclass t == 2 || tclass t == 3) = false := by
     simp only [not_or] at hcl; simp [hcl.1, hcl.2]
    have e2 : (t == 9) = false := by
     rw [beq_eq_false_iff_ne]; rintro rfl; exact hcl (.inl (by decide))
    rw [e1, e2]; simp
  rw [hrest]; by_cases h6 : (tx.toList.isEmpty && mayOk l) = true
  ·rw [if_pos h6]; have h7 := h6; simp only [Bool.and_eq_true] at h7; rw [h7.1, h7.2, Bool.true_and, Bool.true_and]; have hk := look_kids ks false t (y :: r) (c + 1) (by omega); rw [inLine_up, inLi_up]; have e : c + 1 + cntK ks = c + (1 + cntK ks) := by omega
   unfold Says at hk ⊢; rw [e] at hk; exact hk
  ·rw [if_neg h6]; refine Says.no (.inl ?_); cases hx : tx.toList.isEmpty
   ·rfl
   ·cases hm : mayOk l
    ·rfl
    ·rw [hx, hm] at h6; exact absurd rfl h6
theorem look_kids : ∀ (ks : List S25) (pt : Bool) (y : Int) (r : List Int) (c : Nat), c ≤ 2000 → Says (lookK ks pt (r.length + 1) (tclass y == 2) (lineUp (y :: r)) (liUp (y :: r)) c) (kidsR ks pt (y :: r)) c (cntK ks)
 | [], pt, y, r, c, hc => by
  unfold lookK kidsR cntK; exact ⟨by rw [decide_eq_true (by omega)]; rfl, fun _ => rfl⟩
 | k :: ks, pt, y, r, c, hc => by
  unfold lookK kidsR cntK; have hn := look_norm k y r c hc; by_cases h1 : (pt && k.f0 == 0) = true
  ·rw [if_pos h1, h1]; exact Says.no (.inl rfl)
  ·rw [if_neg h1, show (pt && k.f0 == 0) = false by simpa using h1, Bool.not_false, Bool.true_and]; obtain ⟨a1, a2⟩ := hn; cases hl : (lookN k (r.length + 1) (tclass y == 2) (lineUp (y :: r)) (liUp (y :: r)) c).1
   ·rw [if_neg (by decide)]; rw [hl] at a1; refine Says.no ?_; cases hq : normR k (y :: r)
    ·exact .inl rfl
    ·rw [hq, Bool.true_and] at a1; exact .inr (by have := of_decide_eq_false a1.symm; omega)
   ·rw [if_pos rfl, a2 hl]; rw [hl] at a1; have h2 := a1.symm; simp only [Bool.and_eq_true, decide_eq_true_eq] at h2; rw [h2.1, Bool.true_and]; have hk := look_kids ks (k.f0 == 0) y r (c + cntN k) h2.2; unfold Says at hk ⊢; rw [show c + cntN k + cntK ks = c + (cntN k + cntK ks) by omega] at hk; exact hk
end
def normalR (n : S25) : Bool := (n.f0 == 1) && (decide (n.f1.length = 0) && (n.f2.toList.isEmpty && (decide (cntN n ≤ 2000) && (kidsR n.f3 false [1] && decide ((innerP n).length ≤ 8192)))))
theorem normal_eq (n : S25) : normalP n = normalR n := by
 unfold normalP normalR; have h := look_kids n.f3 false 1 [] 1 (by decide); have e1 : (tclass 1 == 2) = true := rfl; have e2 : lineUp [1] = false := rfl; have e3 : liUp [1] = false := rfl; rw [e1, e2, e3] at h; have h1 := h.1; rw [show ([] : List Int).length + 1 = 1 from rfl] at h1; rw [h1, cntN_eq]; rw [Bool.and_comm (kidsR n.f3 false [1])]; simp only [Bool.and_assoc]
attribute [local go_sem] max2_int min2_int max_two min_two max_three min_three max_four min_four
theorem rkids_calls (k : Nat) (a0_0 : Int) (A0_1 : Option Addr) (c0_1 : Nat) (l0_1 : List S47) (a0_2 : ByteArray) (A0_3 : Option Addr) (c0_3 : Nat) (l0_3 : List S25) (A1 : Option Addr) (c1 : Nat) (l1 : List Int) (r : Bool) (w : World) (h1 : Kd.C k47 w A0_1 l0_1.length l0_1) (h2 : l0_1.length ≤ c0_1) (h3 : Kd.C k25 w A0_3 l0_3.length l0_3) (h4 : l0_3.length ≤ c0_3) (h5 : (Kd.int .i64).C w A1 l1.length l1) (h6 : l1.length ≤ c1) (h : quillworkref16_kids_at 1000000000000 k a0_0 l0_1 a0_2 l0_3 l1 = some r) :
 Calls Tryd.prog 25 #[.agg #[.int .i64 a0_0, .slice A0_1 l0_1.length c0_1, .string a0_2, .slice A0_3 l0_3.length c0_3], .slice A1 l1.length c1] w fun e w' => e = .returned (.bool r) ∧ Below w.heap.size w w' := pk_all 1000000000000 k a0_0 A0_1 c0_1 l0_1 a0_2 A0_3 c0_3 l0_3 A1 c1 l1 r w h1 h2 h3 h4 h5 h6 h
theorem rinner_calls (k : Nat) (a0_0 : Int) (A0_1 : Option Addr) (c0_1 : Nat) (l0_1 : List S47) (a0_2 : ByteArray) (A0_3 : Option Addr) (c0_3 : Nat) (l0_3 : List S25) (r : List Int) (w : World) (h1 : Kd.C k47 w A0_1 l0_1.length l0_1) (h2 : l0_1.length ≤ c0_1) (h3 : Kd.C k25 w A0_3 l0_3.length l0_3) (h4 : l0_3.length ≤ c0_3) (h : quillworkref16_Inner_at 1000000000000 k a0_0 l0_1 a0_2 l0_3 = some r) :
 Calls Tryd.prog 11 #[.agg #[.int .i64 a0_0, .slice A0_1 l0_1.length c0_1, .string a0_2, .slice A0_3 l0_3.length c0_3]] w fun e w' => ∃ v0_ : Value, e = .returned v0_ ∧ Kd.R (Kd.int .u8) 5 w' w.heap.size (fun _ => True) v0_ r ∧ Below w.heap.size w w' := pi_all 1000000000000 k a0_0 A0_1 c0_1 l0_1 a0_2 A0_3 c0_3 l0_3 r w h1 h2 h3 h4 h
def quillworkref16_Normal.f (k : Nat) (a0_0 : Int) (l0_1 : List (S47)) (a0_2 : ByteArray) (l0_3 : List (S25)) : Option (Bool) := if a0_0 = 1 then (if (l0_1.length : Int) = 0 then (if a0_2.toList = ([] : List UInt8) then ((quillworkref08_Size.f k a0_0 l0_1 a0_2 l0_3).bind fun t271 => (if t271 ≤ 2000 then ((quillworkref16_kids_at 1000000000000 k a0_0 l0_1 a0_2 l0_3 (([1] : List Int))).bind fun t275 => (if t275 = true then ((quillworkref16_Inner_at 1000000000000 k a0_0 l0_1 a0_2 l0_3).bind fun t276 => (some (decide ((t276.length : Int) ≤ 8192)))) else (some false))) else (some false))) else (some false)) else (some false)) else (some false)
theorem quillworkref16_Normal.mono : ∀ a0 a1 a2 a3 k, LeO (quillworkref16_Normal.f k a0 a1 a2 a3) (quillworkref16_Normal.f (k + 1) a0 a1 a2 a3) := by
 intro a0 a1 a2 a3 k; unfold quillworkref16_Normal.f
 repeat' first
  | (with_reducible exact quillworkref08_Size.mono _ _ _ _ _)
  | (with_reducible exact quillworkref16_Inner_at.mono 1000000000000 _ _ _ _ _)
  | (with_reducible exact quillworkref16_kids_at.mono 1000000000000 _ _ _ _ _ _)
  | (with_reducible exact LeO.refl _)
  | (with_reducible exact LeO.none _)
  | (with_reducible refine LeO.ite ?_ ?_)
  | (with_reducible refine LeO.bind ?_ (fun _ => ?_))
  | exact quillworkref08_Size.mono _ _ _ _ _
  | exact quillworkref16_Inner_at.mono 1000000000000 _ _ _ _ _
  | exact quillworkref16_kids_at.mono 1000000000000 _ _ _ _ _ _
  | exact LeO.none _
  | refine LeO.ite ?_ ?_
  | refine LeO.bind ?_ (fun _ => ?_)
set_option maxHeartbeats 8000000 in
set_option maxRecDepth 100000 in
theorem quillworkref16_Normal.calls (k : Nat) (a0_0 : Int) (A0_1 : Option Addr) (c0_1 : Nat) (l0_1 : List (S47)) (a0_2 : ByteArray) (A0_3 : Option Addr) (c0_3 : Nat) (l0_3 : List (S25)) (r : Bool) (w : World) (hr0_1 : Kd.C k47 w A0_1 l0_1.length l0_1) (hc0_1 : l0_1.length ≤ c0_1) (hr0_3 : Kd.C k25 w A0_3 l0_3.length l0_3) (hc0_3 : l0_3.length ≤ c0_3) (h : quillworkref16_Normal.f k a0_0 l0_1 a0_2 l0_3 = some r) :
 Calls Tryd.prog 13 #[.agg #[.int .i64 a0_0, .slice A0_1 l0_1.length c0_1, .string a0_2, .slice A0_3 l0_3.length c0_3]] w fun e w' => e = .returned (.bool r) ∧ Below w.heap.size w w' := by
 have hu25 := Tryd.underlying25; have HR0_1 := Aside0.mk hr0_1; have HC0_1 := Aside0.mk hc0_1; clear hr0_1 hc0_1; have HR0_3 := Aside0.mk hr0_3; have HC0_3 := Aside0.mk hc0_3; clear hr0_3 hc0_3; have HB := Aside0.mk (Below.refl w.heap.size w); have H : (if a0_0 = 1 then (if (l0_1.length : Int) = 0 then (if a0_2.toList = ([] : List UInt8) then ((quillworkref08_Size.f k a0_0 l0_1 a0_2 l0_3).bind fun t271 => (if t271 ≤ 2000 then ((quillworkref16_kids_at 1000000000000 k a0_0 l0_1 a0_2 l0_3 (([1] : List Int))).bind fun t275 => (if t275 = true then ((quillworkref16_Inner_at 1000000000000 k a0_0 l0_1 a0_2 l0_3).bind fun t276 => (some (decide ((t276.length : Int) ≤ 8192)))) else (some false))) else (some false))) else (some false)) else (some false)) else (some false)) = some r := h; clear h; by_cases c2 : a0_0 = 1
 ·rw [if_pos c2] at H; have c2b0 : (a0_0 == 1) = true := beq_iff_eq.mpr c2; have c2b1 : (a0_0 != 1) = false := bne_eq_false_iff_eq.mpr c2; clear c2; by_cases c3 : (l0_1.length : Int) = 0
  ·rw [if_pos c3] at H; have c3b0 : ((l0_1.length : Int) == 0) = true := beq_iff_eq.mpr c3; have c3b1 : ((l0_1.length : Int) != 0) = false := bne_eq_false_iff_eq.mpr c3; clear c3; by_cases c4 : a0_2.toList = ([] : List UInt8)
   ·rw [if_pos c4] at H; have c4b0 : (a0_2.toList == ([] : List UInt8)) = true := beq_iff_eq.mpr c4; have c4b1 : (a0_2.toList != ([] : List UInt8)) = false := bne_eq_false_iff_eq.mpr c4; clear c4; replace H := Option.bind_eq_some_iff.mp H; obtain ⟨t271, A50, H⟩ := H; replace H : (if t271 ≤ 2000 then ((quillworkref16_kids_at 1000000000000 k a0_0 l0_1 a0_2 l0_3 (([1] : List Int))).bind fun t275 => (if t275 = true then ((quillworkref16_Inner_at 1000000000000 k a0_0 l0_1 a0_2 l0_3).bind fun t276 => (some (decide ((t276.length : Int) ≤ 8192)))) else (some false))) else (some false)) = some r := H; have A5 := Aside0.mk A50; clear A50; by_cases c6 : t271 ≤ 2000
    ·rw [if_pos c6] at H; have c6b0 : decide (t271 ≤ 2000) = true := decide_eq_true c6; clear c6; obtain ⟨y272, hy272⟩ : ∃ y_ : List Int, y_ = (([1] : List Int)) := ⟨_, rfl⟩; replace H : ((quillworkref16_kids_at 1000000000000 k a0_0 l0_1 a0_2 l0_3 y272).bind fun t275 => (if t275 = true then ((quillworkref16_Inner_at 1000000000000 k a0_0 l0_1 a0_2 l0_3).bind fun t276 => (some (decide ((t276.length : Int) ≤ 8192)))) else (some false))) = some r := by first | (rw [hy272]; with_reducible exact H) | (have H2_ := (Option.bind_some _ _).symm.trans H; rw [hy272]; with_reducible exact H2_) | (have H2_ := (Option.bind_some _ _).symm.trans H; with_reducible exact H2_) | with_reducible exact H | (rw [hy272]; exact H) | exact H
     have Ny272 := Aside0.mk hy272; clear hy272; replace H := Option.bind_eq_some_iff.mp H; obtain ⟨t275, A70, H⟩ := H; replace H : (if t275 = true then ((quillworkref16_Inner_at 1000000000000 k a0_0 l0_1 a0_2 l0_3).bind fun t276 => (some (decide ((t276.length : Int) ≤ 8192)))) else (some false)) = some r := H; have A7 := Aside0.mk A70; clear A70; by_cases c8 : t275 = true
     ·subst c8; have H1 : ((quillworkref16_Inner_at 1000000000000 k a0_0 l0_1 a0_2 l0_3).bind fun t276 => (some (decide ((t276.length : Int) ≤ 8192)))) = some r := by rw [if_pos rfl] at H; exact H
      clear H; have H := H1; clear H1; replace H := Option.bind_eq_some_iff.mp H; obtain ⟨t276, A90, H⟩ := H; replace H : (some (decide ((t276.length : Int) ≤ 8192))) = some r := H; have A9 := Aside0.mk A90; clear A90; obtain rfl := Option.some.inj H; go_enter Tryd.func13, Tryd.ntmps13
      go_wp2_with (first | ((with_reducible refine gate_dst (N := 1) rfl ?_); (try (refine gate_guard (by rfl) ?_; dsimp only)); refine box_event ?hg (N := 1) ?hd (cs := #[.int .i64 a0_0, .slice A0_1 l0_1.length c0_1, .string a0_2, .slice A0_3 l0_3.length c0_3]) (t := 25) ?hr ?_; (case hd => rfl); (case hg => rfl); (case hr => first | (go_simp; done) | (go_simp; rfl)); intro gb270 hg w10 hbox hb; have n0_ := Aside0.mk (below_step (by repeat (first | (with_reducible first | exact HB.out | apply below_alloc | apply pw_below_drewN | apply below_drew1) | exact HB.out)) hb); have n1_ := Aside0.mk (hbox); have n2_ := Aside0.mk ((by rw [hg]; exact (below_size (by repeat (first | (with_reducible first | exact HB.out | apply below_alloc | apply pw_below_drewN | apply below_drew1) | exact HB.out))) : w.heap.size ≤ gb270)); have n3_ := Aside0.mk ((by rw [hg]; exact (below_size (by repeat (first | (with_reducible first | exact HB.out | apply below_alloc | apply pw_below_drewN | apply below_drew1) | exact HB.out))) : w.heap.size ≤ gb270)); clear HB; have HB := n0_; have BK270 := n1_; have GW270 := n2_; have GE270 := n3_; clear n0_ n1_ n2_ n3_; clear hb hbox hg; have hcz11_0 : w10.cell? ⟨gb270, 0, none⟩ = some (.int .i64 a0_0) := (blk_cell BK270.out 0).trans rfl; have hcz11_1 : w10.cell? ⟨gb270, 1, none⟩ = some (.slice A0_1 l0_1.length c0_1) := (blk_cell BK270.out 1).trans rfl; have hcz11_2 : w10.cell? ⟨gb270, 2, none⟩ = some (.string a0_2) := (blk_cell BK270.out 2).trans rfl; have hcz11_3 : w10.cell? ⟨gb270, 3, none⟩ = some (.slice A0_3 l0_3.length c0_3) := (blk_cell BK270.out 3).trans rfl; have hfz11_0 := blk_frozen BK270.out 0; have hfz11_1 := blk_frozen BK270.out 1; have hfz11_2 := blk_frozen BK270.out 2; have hfz11_3 := blk_frozen BK270.out 3) | (go_at_call 24; (with_reducible refine (quillworkref08_Size.calls k a0_0 _ _ l0_1 a0_2 _ _ l0_3 t271 _ ?side1 ?side2 ?side3 ?side4 A5.out).mono ?_); (case side1 => repeat (first | exact (Kd.C_below HR0_1.out HB.out) | (with_reducible refine Kd.C_alloc ?_ _) | (with_reducible refine Kd.C_drewN ?_ _) | (with_reducible refine Kd.C_drew ?_))); (case side2 => exact HC0_1.out); (case side3 => repeat (first | exact (Kd.C_below HR0_3.out HB.out) | (with_reducible refine Kd.C_alloc ?_ _) | (with_reducible refine Kd.C_drewN ?_ _) | (with_reducible refine Kd.C_drew ?_))); (case side4 => exact HC0_3.out); rintro e w12 ⟨rfl, hb⟩; have n0_ := Aside0.mk (blk_below (g := gb270) (o := .cells #[.int .i64 a0_0, .slice A0_1 l0_1.length c0_1, .string a0_2, .slice A0_3 l0_3.length c0_3] 25 (0, 0)) (by (with_reducible repeat (first | refine blk_drewN ?_ _ | refine blk_drew ?_ | refine blk_alloc ?_ _)); exact BK270.out) hb); have n1_ := Aside0.mk (below_step (by repeat (first | (with_reducible first | exact HB.out | apply below_alloc | apply pw_below_drewN | apply below_drew1 | refine below_set ?_ GE270.out) | exact HB.out)) hb); clear BK270; clear HB; have BK270 := n0_; have HB := n1_; clear n0_ n1_; (try clear hb); (try clear hb2); (try clear hk); (try clear hi); have hcz13_0 : w12.cell? ⟨gb270, 0, none⟩ = some (.int .i64 a0_0) := (blk_cell BK270.out 0).trans rfl; have hcz13_1 : w12.cell? ⟨gb270, 1, none⟩ = some (.slice A0_1 l0_1.length c0_1) := (blk_cell BK270.out 1).trans rfl; have hcz13_2 : w12.cell? ⟨gb270, 2, none⟩ = some (.string a0_2) := (blk_cell BK270.out 2).trans rfl; have hcz13_3 : w12.cell? ⟨gb270, 3, none⟩ = some (.slice A0_3 l0_3.length c0_3) := (blk_cell BK270.out 3).trans rfl; have hfz13_0 := blk_frozen BK270.out 0; have hfz13_1 := blk_frozen BK270.out 1; have hfz13_2 := blk_frozen BK270.out 2; have hfz13_3 := blk_frozen BK270.out 3) | ((with_reducible refine gate_dst (N := 24) rfl ?_); (try (refine gate_guard (by rfl) ?_; dsimp only)); refine Kd.R_lit (Kd.int .i64) _ 3 ?hg (N := 24) ?hd (xs := ([1] : List Int)) (inner := [.int .i64 1]) (ok := fun _ => True) (okp := fun _ => True) ?hr ?hp (fun _ hk => hk) trivial (Below.refl _ _) (Nat.le_refl _) (by simp) ?_; (case hd => rfl); (case hg => rfl); (case hr => first | (go_simp; done) | (go_simp; rfl)); (case hp => exact (Reps.one (show Kd.M (Kd.int .i64) _ _ _ 1 [.int .i64 1] from rfl) (Reps.none _ _))); intro v273 w14 ho15 hb hg_ hnew_; clear hg_ hnew_; (first | rw [← Ny272.out] at ho15 | (simp only [Int.reduceToNat] at ho15; rw [← Ny272.out] at ho15)); have n0_ := Aside0.mk (Kd.R_lower ho15 (below_size (by repeat (first | (with_reducible first | exact HB.out | apply below_alloc | apply pw_below_drewN | apply below_drew1 | refine below_set ?_ GE270.out) | exact HB.out)))); have n1_ := Aside0.mk (blk_below (g := gb270) (o := .cells #[.int .i64 a0_0, .slice A0_1 l0_1.length c0_1, .string a0_2, .slice A0_3 l0_3.length c0_3] 25 (0, 0)) (by (with_reducible repeat (first | refine blk_drewN ?_ _ | refine blk_drew ?_ | refine blk_alloc ?_ _)); exact BK270.out) hb); have n2_ := Aside0.mk (below_step (by repeat (first | (with_reducible first | exact HB.out | apply below_alloc | apply pw_below_drewN | apply below_drew1 | refine below_set ?_ GE270.out) | exact HB.out)) hb); clear BK270; clear HB; have HO274 := n0_; have BK270 := n1_; have HB := n2_; clear n0_ n1_ n2_; clear hb ho15; obtain ⟨Ao16, co16, eo16⟩ := Kd.R_slice HO274.out; subst eo16) | (go_at_call 25; (with_reducible refine (rkids_calls k a0_0 _ _ l0_1 a0_2 _ _ l0_3 _ _ y272 true _ ?side1 ?side2 ?side3 ?side4 ?side5 ?side6 A7.out).mono ?_); (case side1 => repeat (first | exact (Kd.C_below HR0_1.out HB.out) | (with_reducible refine Kd.C_alloc ?_ _) | (with_reducible refine Kd.C_drewN ?_ _) | (with_reducible refine Kd.C_drew ?_))); (case side2 => exact HC0_1.out); (case side3 => repeat (first | exact (Kd.C_below HR0_3.out HB.out) | (with_reducible refine Kd.C_alloc ?_ _) | (with_reducible refine Kd.C_drewN ?_ _) | (with_reducible refine Kd.C_drew ?_))); (case side4 => exact HC0_3.out); (case side5 => repeat (first | exact (Kd.R_reads' HO274.out).2.2 | (with_reducible refine Kd.C_alloc ?_ _) | (with_reducible refine Kd.C_drewN ?_ _) | (with_reducible refine Kd.C_drew ?_))); (case side6 => exact (Kd.R_reads' HO274.out).2.1); rintro e w17 ⟨rfl, hb⟩; have n0_ := Aside0.mk (Kd.R_below (by (with_reducible repeat (first | apply Kd.R_alloc | apply Kd.R_drewN | apply Kd.R_drew)); exact HO274.out) hb); have n1_ := Aside0.mk (blk_below (g := gb270) (o := .cells #[.int .i64 a0_0, .slice A0_1 l0_1.length c0_1, .string a0_2, .slice A0_3 l0_3.length c0_3] 25 (0, 0)) (by (with_reducible repeat (first | refine blk_drewN ?_ _ | refine blk_drew ?_ | refine blk_alloc ?_ _)); exact BK270.out) hb); have n2_ := Aside0.mk (below_step (by repeat (first | (with_reducible first | exact HB.out | apply below_alloc | apply pw_below_drewN | apply below_drew1 | refine below_set ?_ GE270.out) | exact HB.out)) hb); clear HO274; clear BK270; clear HB; have HO274 := n0_; have BK270 := n1_; have HB := n2_; clear n0_ n1_ n2_; (try clear hb); (try clear hb2); (try clear hk); (try clear hi); have hcz18_0 : w17.cell? ⟨gb270, 0, none⟩ = some (.int .i64 a0_0) := (blk_cell BK270.out 0).trans rfl; have hcz18_1 : w17.cell? ⟨gb270, 1, none⟩ = some (.slice A0_1 l0_1.length c0_1) := (blk_cell BK270.out 1).trans rfl; have hcz18_2 : w17.cell? ⟨gb270, 2, none⟩ = some (.string a0_2) := (blk_cell BK270.out 2).trans rfl; have hcz18_3 : w17.cell? ⟨gb270, 3, none⟩ = some (.slice A0_3 l0_3.length c0_3) := (blk_cell BK270.out 3).trans rfl; have hfz18_0 := blk_frozen BK270.out 0; have hfz18_1 := blk_frozen BK270.out 1; have hfz18_2 := blk_frozen BK270.out 2; have hfz18_3 := blk_frozen BK270.out 3) | (go_at_call 11; (with_reducible refine (rinner_calls k a0_0 _ _ l0_1 a0_2 _ _ l0_3 t276 _ ?side1 ?side2 ?side3 ?side4 A9.out).mono ?_); (case side1 => repeat (first | exact (Kd.C_below HR0_1.out HB.out) | (with_reducible refine Kd.C_alloc ?_ _) | (with_reducible refine Kd.C_drewN ?_ _) | (with_reducible refine Kd.C_drew ?_))); (case side2 => exact HC0_1.out); (case side3 => repeat (first | exact (Kd.C_below HR0_3.out HB.out) | (with_reducible refine Kd.C_alloc ?_ _) | (with_reducible refine Kd.C_drewN ?_ _) | (with_reducible refine Kd.C_drew ?_))); (case side4 => exact HC0_3.out); rintro e w19 ⟨v277, rfl, ho0, hb⟩; have n0_ := Aside0.mk (Kd.R_below (by (with_reducible repeat (first | apply Kd.R_alloc | apply Kd.R_drewN | apply Kd.R_drew)); exact HO274.out) hb); have n1_ := Aside0.mk (Kd.R_lower ho0 (below_size (by repeat (first | (with_reducible first | exact HB.out | apply below_alloc | apply pw_below_drewN | apply below_drew1 | refine below_set ?_ GE270.out) | exact HB.out)))); have n2_ := Aside0.mk (blk_below (g := gb270) (o := .cells #[.int .i64 a0_0, .slice A0_1 l0_1.length c0_1, .string a0_2, .slice A0_3 l0_3.length c0_3] 25 (0, 0)) (by (with_reducible repeat (first | refine blk_drewN ?_ _ | refine blk_drew ?_ | refine blk_alloc ?_ _)); exact BK270.out) hb); have n3_ := Aside0.mk (below_step (by repeat (first | (with_reducible first | exact HB.out | apply below_alloc | apply pw_below_drewN | apply below_drew1 | refine below_set ?_ GE270.out) | exact HB.out)) hb); clear HO274; clear BK270; clear HB; have HO274 := n0_; have HO278 := n1_; have BK270 := n2_; have HB := n3_; clear n0_ n1_ n2_ n3_; (try clear hb); (try clear hb2); (try clear hk); (try clear hi); (try clear ho0); obtain ⟨Ao20, co20, eo20⟩ := Kd.R_slice HO278.out; subst eo20))
      go_ret; exact ⟨by first | rfl | (simp [errW_none, errW_some] <;> rfl) | (simp [*, errW_none, errW_some] <;> rfl), by repeat (first | (with_reducible first | exact HB.out | apply below_alloc | apply pw_below_drewN | apply below_drew1 | refine below_set ?_ GE270.out) | exact HB.out)⟩
     ·replace c8 := Bool.eq_false_iff.mpr c8; subst c8; have H1 : (some false) = some r := by rw [if_neg (show ¬ (false = true) by decide)] at H; exact H
      clear H; have H := H1; clear H1; obtain rfl := Option.some.inj H; go_enter Tryd.func13, Tryd.ntmps13
      go_wp2_with (first | ((with_reducible refine gate_dst (N := 1) rfl ?_); (try (refine gate_guard (by rfl) ?_; dsimp only)); refine box_event ?hg (N := 1) ?hd (cs := #[.int .i64 a0_0, .slice A0_1 l0_1.length c0_1, .string a0_2, .slice A0_3 l0_3.length c0_3]) (t := 25) ?hr ?_; (case hd => rfl); (case hg => rfl); (case hr => first | (go_simp; done) | (go_simp; rfl)); intro gb270 hg w21 hbox hb; have n0_ := Aside0.mk (below_step (by repeat (first | (with_reducible first | exact HB.out | apply below_alloc | apply pw_below_drewN | apply below_drew1) | exact HB.out)) hb); have n1_ := Aside0.mk (hbox); have n2_ := Aside0.mk ((by rw [hg]; exact (below_size (by repeat (first | (with_reducible first | exact HB.out | apply below_alloc | apply pw_below_drewN | apply below_drew1) | exact HB.out))) : w.heap.size ≤ gb270)); have n3_ := Aside0.mk ((by rw [hg]; exact (below_size (by repeat (first | (with_reducible first | exact HB.out | apply below_alloc | apply pw_below_drewN | apply below_drew1) | exact HB.out))) : w.heap.size ≤ gb270)); clear HB; have HB := n0_; have BK270 := n1_; have GW270 := n2_; have GE270 := n3_; clear n0_ n1_ n2_ n3_; clear hb hbox hg; have hcz22_0 : w21.cell? ⟨gb270, 0, none⟩ = some (.int .i64 a0_0) := (blk_cell BK270.out 0).trans rfl; have hcz22_1 : w21.cell? ⟨gb270, 1, none⟩ = some (.slice A0_1 l0_1.length c0_1) := (blk_cell BK270.out 1).trans rfl; have hcz22_2 : w21.cell? ⟨gb270, 2, none⟩ = some (.string a0_2) := (blk_cell BK270.out 2).trans rfl; have hcz22_3 : w21.cell? ⟨gb270, 3, none⟩ = some (.slice A0_3 l0_3.length c0_3) := (blk_cell BK270.out 3).trans rfl; have hfz22_0 := blk_frozen BK270.out 0; have hfz22_1 := blk_frozen BK270.out 1; have hfz22_2 := blk_frozen BK270.out 2; have hfz22_3 := blk_frozen BK270.out 3) | (go_at_call 24; (with_reducible refine (quillworkref08_Size.calls k a0_0 _ _ l0_1 a0_2 _ _ l0_3 t271 _ ?side1 ?side2 ?side3 ?side4 A5.out).mono ?_); (case side1 => repeat (first | exact (Kd.C_below HR0_1.out HB.out) | (with_reducible refine Kd.C_alloc ?_ _) | (with_reducible refine Kd.C_drewN ?_ _) | (with_reducible refine Kd.C_drew ?_))); (case side2 => exact HC0_1.out); (case side3 => repeat (first | exact (Kd.C_below HR0_3.out HB.out) | (with_reducible refine Kd.C_alloc ?_ _) | (with_reducible refine Kd.C_drewN ?_ _) | (with_reducible refine Kd.C_drew ?_))); (case side4 => exact HC0_3.out); rintro e w23 ⟨rfl, hb⟩; have n0_ := Aside0.mk (blk_below (g := gb270) (o := .cells #[.int .i64 a0_0, .slice A0_1 l0_1.length c0_1, .string a0_2, .slice A0_3 l0_3.length c0_3] 25 (0, 0)) (by (with_reducible repeat (first | refine blk_drewN ?_ _ | refine blk_drew ?_ | refine blk_alloc ?_ _)); exact BK270.out) hb); have n1_ := Aside0.mk (below_step (by repeat (first | (with_reducible first | exact HB.out | apply below_alloc | apply pw_below_drewN | apply below_drew1 | refine below_set ?_ GE270.out) | exact HB.out)) hb); clear BK270; clear HB; have BK270 := n0_; have HB := n1_; clear n0_ n1_; (try clear hb); (try clear hb2); (try clear hk); (try clear hi); have hcz24_0 : w23.cell? ⟨gb270, 0, none⟩ = some (.int .i64 a0_0) := (blk_cell BK270.out 0).trans rfl; have hcz24_1 : w23.cell? ⟨gb270, 1, none⟩ = some (.slice A0_1 l0_1.length c0_1) := (blk_cell BK270.out 1).trans rfl; have hcz24_2 : w23.cell? ⟨gb270, 2, none⟩ = some (.string a0_2) := (blk_cell BK270.out 2).trans rfl; have hcz24_3 : w23.cell? ⟨gb270, 3, none⟩ = some (.slice A0_3 l0_3.length c0_3) := (blk_cell BK270.out 3).trans rfl; have hfz24_0 := blk_frozen BK270.out 0; have hfz24_1 := blk_frozen BK270.out 1; have hfz24_2 := blk_frozen BK270.out 2; have hfz24_3 := blk_frozen BK270.out 3) | ((with_reducible refine gate_dst (N := 24) rfl ?_); (try (refine gate_guard (by rfl) ?_; dsimp only)); refine Kd.R_lit (Kd.int .i64) _ 3 ?hg (N := 24) ?hd (xs := ([1] : List Int)) (inner := [.int .i64 1]) (ok := fun _ => True) (okp := fun _ => True) ?hr ?hp (fun _ hk => hk) trivial (Below.refl _ _) (Nat.le_refl _) (by simp) ?_; (case hd => rfl); (case hg => rfl); (case hr => first | (go_simp; done) | (go_simp; rfl)); (case hp => exact (Reps.one (show Kd.M (Kd.int .i64) _ _ _ 1 [.int .i64 1] from rfl) (Reps.none _ _))); intro v273 w25 ho26 hb hg_ hnew_; clear hg_ hnew_; (first | rw [← Ny272.out] at ho26 | (simp only [Int.reduceToNat] at ho26; rw [← Ny272.out] at ho26)); have n0_ := Aside0.mk (Kd.R_lower ho26 (below_size (by repeat (first | (with_reducible first | exact HB.out | apply below_alloc | apply pw_below_drewN | apply below_drew1 | refine below_set ?_ GE270.out) | exact HB.out)))); have n1_ := Aside0.mk (blk_below (g := gb270) (o := .cells #[.int .i64 a0_0, .slice A0_1 l0_1.length c0_1, .string a0_2, .slice A0_3 l0_3.length c0_3] 25 (0, 0)) (by (with_reducible repeat (first | refine blk_drewN ?_ _ | refine blk_drew ?_ | refine blk_alloc ?_ _)); exact BK270.out) hb); have n2_ := Aside0.mk (below_step (by repeat (first | (with_reducible first | exact HB.out | apply below_alloc | apply pw_below_drewN | apply below_drew1 | refine below_set ?_ GE270.out) | exact HB.out)) hb); clear BK270; clear HB; have HO274 := n0_; have BK270 := n1_; have HB := n2_; clear n0_ n1_ n2_; clear hb ho26; obtain ⟨Ao27, co27, eo27⟩ := Kd.R_slice HO274.out; subst eo27) | (go_at_call 25; (with_reducible refine (rkids_calls k a0_0 _ _ l0_1 a0_2 _ _ l0_3 _ _ y272 false _ ?side1 ?side2 ?side3 ?side4 ?side5 ?side6 A7.out).mono ?_); (case side1 => repeat (first | exact (Kd.C_below HR0_1.out HB.out) | (with_reducible refine Kd.C_alloc ?_ _) | (with_reducible refine Kd.C_drewN ?_ _) | (with_reducible refine Kd.C_drew ?_))); (case side2 => exact HC0_1.out); (case side3 => repeat (first | exact (Kd.C_below HR0_3.out HB.out) | (with_reducible refine Kd.C_alloc ?_ _) | (with_reducible refine Kd.C_drewN ?_ _) | (with_reducible refine Kd.C_drew ?_))); (case side4 => exact HC0_3.out); (case side5 => repeat (first | exact (Kd.R_reads' HO274.out).2.2 | (with_reducible refine Kd.C_alloc ?_ _) | (with_reducible refine Kd.C_drewN ?_ _) | (with_reducible refine Kd.C_drew ?_))); (case side6 => exact (Kd.R_reads' HO274.out).2.1); rintro e w28 ⟨rfl, hb⟩; have n0_ := Aside0.mk (Kd.R_below (by (with_reducible repeat (first | apply Kd.R_alloc | apply Kd.R_drewN | apply Kd.R_drew)); exact HO274.out) hb); have n1_ := Aside0.mk (blk_below (g := gb270) (o := .cells #[.int .i64 a0_0, .slice A0_1 l0_1.length c0_1, .string a0_2, .slice A0_3 l0_3.length c0_3] 25 (0, 0)) (by (with_reducible repeat (first | refine blk_drewN ?_ _ | refine blk_drew ?_ | refine blk_alloc ?_ _)); exact BK270.out) hb); have n2_ := Aside0.mk (below_step (by repeat (first | (with_reducible first | exact HB.out | apply below_alloc | apply pw_below_drewN | apply below_drew1 | refine below_set ?_ GE270.out) | exact HB.out)) hb); clear HO274; clear BK270; clear HB; have HO274 := n0_; have BK270 := n1_; have HB := n2_; clear n0_ n1_ n2_; (try clear hb); (try clear hb2); (try clear hk); (try clear hi)))
      go_ret; exact ⟨by first | rfl | (simp [errW_none, errW_some] <;> rfl) | (simp [*, errW_none, errW_some] <;> rfl), by repeat (first | (with_reducible first | exact HB.out | apply below_alloc | apply pw_below_drewN | apply below_drew1 | refine below_set ?_ GE270.out) | exact HB.out)⟩
    ·rw [if_neg c6] at H; have c6b0 : decide (t271 ≤ 2000) = false := decide_eq_false c6; clear c6; obtain rfl := Option.some.inj H; go_enter Tryd.func13, Tryd.ntmps13
     go_wp2_with (first | ((with_reducible refine gate_dst (N := 1) rfl ?_); (try (refine gate_guard (by rfl) ?_; dsimp only)); refine box_event ?hg (N := 1) ?hd (cs := #[.int .i64 a0_0, .slice A0_1 l0_1.length c0_1, .string a0_2, .slice A0_3 l0_3.length c0_3]) (t := 25) ?hr ?_; (case hd => rfl); (case hg => rfl); (case hr => first | (go_simp; done) | (go_simp; rfl)); intro gb270 hg w29 hbox hb; have n0_ := Aside0.mk (below_step (by repeat (first | (with_reducible first | exact HB.out | apply below_alloc | apply pw_below_drewN | apply below_drew1) | exact HB.out)) hb); have n1_ := Aside0.mk (hbox); have n2_ := Aside0.mk ((by rw [hg]; exact (below_size (by repeat (first | (with_reducible first | exact HB.out | apply below_alloc | apply pw_below_drewN | apply below_drew1) | exact HB.out))) : w.heap.size ≤ gb270)); have n3_ := Aside0.mk ((by rw [hg]; exact (below_size (by repeat (first | (with_reducible first | exact HB.out | apply below_alloc | apply pw_below_drewN | apply below_drew1) | exact HB.out))) : w.heap.size ≤ gb270)); clear HB; have HB := n0_; have BK270 := n1_; have GW270 := n2_; have GE270 := n3_; clear n0_ n1_ n2_ n3_; clear hb hbox hg; have hcz30_0 : w29.cell? ⟨gb270, 0, none⟩ = some (.int .i64 a0_0) := (blk_cell BK270.out 0).trans rfl; have hcz30_1 : w29.cell? ⟨gb270, 1, none⟩ = some (.slice A0_1 l0_1.length c0_1) := (blk_cell BK270.out 1).trans rfl; have hcz30_2 : w29.cell? ⟨gb270, 2, none⟩ = some (.string a0_2) := (blk_cell BK270.out 2).trans rfl; have hcz30_3 : w29.cell? ⟨gb270, 3, none⟩ = some (.slice A0_3 l0_3.length c0_3) := (blk_cell BK270.out 3).trans rfl; have hfz30_0 := blk_frozen BK270.out 0; have hfz30_1 := blk_frozen BK270.out 1; have hfz30_2 := blk_frozen BK270.out 2; have hfz30_3 := blk_frozen BK270.out 3) | (go_at_call 24; (with_reducible refine (quillworkref08_Size.calls k a0_0 _ _ l0_1 a0_2 _ _ l0_3 t271 _ ?side1 ?side2 ?side3 ?side4 A5.out).mono ?_); (case side1 => repeat (first | exact (Kd.C_below HR0_1.out HB.out) | (with_reducible refine Kd.C_alloc ?_ _) | (with_reducible refine Kd.C_drewN ?_ _) | (with_reducible refine Kd.C_drew ?_))); (case side2 => exact HC0_1.out); (case side3 => repeat (first | exact (Kd.C_below HR0_3.out HB.out) | (with_reducible refine Kd.C_alloc ?_ _) | (with_reducible refine Kd.C_drewN ?_ _) | (with_reducible refine Kd.C_drew ?_))); (case side4 => exact HC0_3.out); rintro e w31 ⟨rfl, hb⟩; have n0_ := Aside0.mk (blk_below (g := gb270) (o := .cells #[.int .i64 a0_0, .slice A0_1 l0_1.length c0_1, .string a0_2, .slice A0_3 l0_3.length c0_3] 25 (0, 0)) (by (with_reducible repeat (first | refine blk_drewN ?_ _ | refine blk_drew ?_ | refine blk_alloc ?_ _)); exact BK270.out) hb); have n1_ := Aside0.mk (below_step (by repeat (first | (with_reducible first | exact HB.out | apply below_alloc | apply pw_below_drewN | apply below_drew1 | refine below_set ?_ GE270.out) | exact HB.out)) hb); clear BK270; clear HB; have BK270 := n0_; have HB := n1_; clear n0_ n1_; (try clear hb); (try clear hb2); (try clear hk); (try clear hi)))
     go_ret; exact ⟨by first | rfl | (simp [errW_none, errW_some] <;> rfl) | (simp [*, errW_none, errW_some] <;> rfl), by repeat (first | (with_reducible first | exact HB.out | apply below_alloc | apply pw_below_drewN | apply below_drew1 | refine below_set ?_ GE270.out) | exact HB.out)⟩
   ·rw [if_neg c4] at H; have c4b0 : (a0_2.toList == ([] : List UInt8)) = false := beq_eq_false_iff_ne.mpr c4; have c4b1 : (a0_2.toList != ([] : List UInt8)) = true := bne_iff_ne.mpr c4; obtain rfl := Option.some.inj H; go_enter Tryd.func13, Tryd.ntmps13
    go_wp2_with (first | ((with_reducible refine gate_dst (N := 1) rfl ?_); (try (refine gate_guard (by rfl) ?_; dsimp only)); refine box_event ?hg (N := 1) ?hd (cs := #[.int .i64 a0_0, .slice A0_1 l0_1.length c0_1, .string a0_2, .slice A0_3 l0_3.length c0_3]) (t := 25) ?hr ?_; (case hd => rfl); (case hg => rfl); (case hr => first | (go_simp; done) | (go_simp; rfl)); intro gb270 hg w32 hbox hb; have n0_ := Aside0.mk (below_step (by repeat (first | (with_reducible first | exact HB.out | apply below_alloc | apply pw_below_drewN | apply below_drew1) | exact HB.out)) hb); have n1_ := Aside0.mk (hbox); have n2_ := Aside0.mk ((by rw [hg]; exact (below_size (by repeat (first | (with_reducible first | exact HB.out | apply below_alloc | apply pw_below_drewN | apply below_drew1) | exact HB.out))) : w.heap.size ≤ gb270)); have n3_ := Aside0.mk ((by rw [hg]; exact (below_size (by repeat (first | (with_reducible first | exact HB.out | apply below_alloc | apply pw_below_drewN | apply below_drew1) | exact HB.out))) : w.heap.size ≤ gb270)); clear HB; have HB := n0_; have BK270 := n1_; have GW270 := n2_; have GE270 := n3_; clear n0_ n1_ n2_ n3_; clear hb hbox hg; have hcz33_0 : w32.cell? ⟨gb270, 0, none⟩ = some (.int .i64 a0_0) := (blk_cell BK270.out 0).trans rfl; have hcz33_1 : w32.cell? ⟨gb270, 1, none⟩ = some (.slice A0_1 l0_1.length c0_1) := (blk_cell BK270.out 1).trans rfl; have hcz33_2 : w32.cell? ⟨gb270, 2, none⟩ = some (.string a0_2) := (blk_cell BK270.out 2).trans rfl; have hcz33_3 : w32.cell? ⟨gb270, 3, none⟩ = some (.slice A0_3 l0_3.length c0_3) := (blk_cell BK270.out 3).trans rfl; have hfz33_0 := blk_frozen BK270.out 0; have hfz33_1 := blk_frozen BK270.out 1; have hfz33_2 := blk_frozen BK270.out 2; have hfz33_3 := blk_frozen BK270.out 3))
    go_ret; exact ⟨by first | rfl | (simp [errW_none, errW_some] <;> rfl) | (simp [*, errW_none, errW_some] <;> rfl), by repeat (first | (with_reducible first | exact HB.out | apply below_alloc | apply pw_below_drewN | apply below_drew1 | refine below_set ?_ GE270.out) | exact HB.out)⟩
  ·rw [if_neg c3] at H; have c3b0 : ((l0_1.length : Int) == 0) = false := beq_eq_false_iff_ne.mpr c3; have c3b1 : ((l0_1.length : Int) != 0) = true := bne_iff_ne.mpr c3; have c3b2 : ¬ (l0_1 = []) := fun h_ => c3 (by rw [h_]; rfl)
   obtain rfl := Option.some.inj H; go_enter Tryd.func13, Tryd.ntmps13
   go_wp2_with (first | ((with_reducible refine gate_dst (N := 1) rfl ?_); (try (refine gate_guard (by rfl) ?_; dsimp only)); refine box_event ?hg (N := 1) ?hd (cs := #[.int .i64 a0_0, .slice A0_1 l0_1.length c0_1, .string a0_2, .slice A0_3 l0_3.length c0_3]) (t := 25) ?hr ?_; (case hd => rfl); (case hg => rfl); (case hr => first | (go_simp; done) | (go_simp; rfl)); intro gb270 hg w34 hbox hb; have n0_ := Aside0.mk (below_step (by repeat (first | (with_reducible first | exact HB.out | apply below_alloc | apply pw_below_drewN | apply below_drew1) | exact HB.out)) hb); have n1_ := Aside0.mk (hbox); have n2_ := Aside0.mk ((by rw [hg]; exact (below_size (by repeat (first | (with_reducible first | exact HB.out | apply below_alloc | apply pw_below_drewN | apply below_drew1) | exact HB.out))) : w.heap.size ≤ gb270)); have n3_ := Aside0.mk ((by rw [hg]; exact (below_size (by repeat (first | (with_reducible first | exact HB.out | apply below_alloc | apply pw_below_drewN | apply below_drew1) | exact HB.out))) : w.heap.size ≤ gb270)); clear HB; have HB := n0_; have BK270 := n1_; have GW270 := n2_; have GE270 := n3_; clear n0_ n1_ n2_ n3_; clear hb hbox hg; have hcz35_0 : w34.cell? ⟨gb270, 0, none⟩ = some (.int .i64 a0_0) := (blk_cell BK270.out 0).trans rfl; have hcz35_1 : w34.cell? ⟨gb270, 1, none⟩ = some (.slice A0_1 l0_1.length c0_1) := (blk_cell BK270.out 1).trans rfl; have hcz35_2 : w34.cell? ⟨gb270, 2, none⟩ = some (.string a0_2) := (blk_cell BK270.out 2).trans rfl; have hcz35_3 : w34.cell? ⟨gb270, 3, none⟩ = some (.slice A0_3 l0_3.length c0_3) := (blk_cell BK270.out 3).trans rfl; have hfz35_0 := blk_frozen BK270.out 0; have hfz35_1 := blk_frozen BK270.out 1; have hfz35_2 := blk_frozen BK270.out 2; have hfz35_3 := blk_frozen BK270.out 3))
   go_ret; exact ⟨by first | rfl | (simp [errW_none, errW_some] <;> rfl) | (simp [*, errW_none, errW_some] <;> rfl), by repeat (first | (with_reducible first | exact HB.out | apply below_alloc | apply pw_below_drewN | apply below_drew1 | refine below_set ?_ GE270.out) | exact HB.out)⟩
 ·rw [if_neg c2] at H; have c2b0 : (a0_0 == 1) = false := beq_eq_false_iff_ne.mpr c2; have c2b1 : (a0_0 != 1) = true := bne_iff_ne.mpr c2; obtain rfl := Option.some.inj H; go_enter Tryd.func13, Tryd.ntmps13
  go_wp2_with (first | ((with_reducible refine gate_dst (N := 1) rfl ?_); (try (refine gate_guard (by rfl) ?_; dsimp only)); refine box_event ?hg (N := 1) ?hd (cs := #[.int .i64 a0_0, .slice A0_1 l0_1.length c0_1, .string a0_2, .slice A0_3 l0_3.length c0_3]) (t := 25) ?hr ?_; (case hd => rfl); (case hg => rfl); (case hr => first | (go_simp; done) | (go_simp; rfl)); intro gb270 hg w36 hbox hb; have n0_ := Aside0.mk (below_step (by repeat (first | (with_reducible first | exact HB.out | apply below_alloc | apply pw_below_drewN | apply below_drew1) | exact HB.out)) hb); have n1_ := Aside0.mk (hbox); have n2_ := Aside0.mk ((by rw [hg]; exact (below_size (by repeat (first | (with_reducible first | exact HB.out | apply below_alloc | apply pw_below_drewN | apply below_drew1) | exact HB.out))) : w.heap.size ≤ gb270)); have n3_ := Aside0.mk ((by rw [hg]; exact (below_size (by repeat (first | (with_reducible first | exact HB.out | apply below_alloc | apply pw_below_drewN | apply below_drew1) | exact HB.out))) : w.heap.size ≤ gb270)); clear HB; have HB := n0_; have BK270 := n1_; have GW270 := n2_; have GE270 := n3_; clear n0_ n1_ n2_ n3_; clear hb hbox hg; have hcz37_0 : w36.cell? ⟨gb270, 0, none⟩ = some (.int .i64 a0_0) := (blk_cell BK270.out 0).trans rfl; have hcz37_1 : w36.cell? ⟨gb270, 1, none⟩ = some (.slice A0_1 l0_1.length c0_1) := (blk_cell BK270.out 1).trans rfl; have hcz37_2 : w36.cell? ⟨gb270, 2, none⟩ = some (.string a0_2) := (blk_cell BK270.out 2).trans rfl; have hcz37_3 : w36.cell? ⟨gb270, 3, none⟩ = some (.slice A0_3 l0_3.length c0_3) := (blk_cell BK270.out 3).trans rfl; have hfz37_0 := blk_frozen BK270.out 0; have hfz37_1 := blk_frozen BK270.out 1; have hfz37_2 := blk_frozen BK270.out 2; have hfz37_3 := blk_frozen BK270.out 3))
  go_ret; exact ⟨by first | rfl | (simp [errW_none, errW_some] <;> rfl) | (simp [*, errW_none, errW_some] <;> rfl), by repeat (first | (with_reducible first | exact HB.out | apply below_alloc | apply pw_below_drewN | apply below_drew1 | refine below_set ?_ GE270.out) | exact HB.out)⟩
theorem refNormalTop_ev (n : S25) (h : nsz n ≤ 1000000000) : Ev (fun k => quillworkref16_Normal.f k n.f0 n.f1 n.f2 n.f3) (normalR n) := by
 obtain ⟨t, l, tx, ks⟩ := n; have hno : Ev (fun _ => some false) false := Ev.now _; have hsz := size_ev _ ⟨t, l, tx, ks⟩ (Nat.le_refl _) (by omega); unfold normalR; simp only; by_cases h1 : t = 1
 case neg =>
  rw [show (t == 1) = false by simp [h1], Bool.false_and]; exact Ev.congr (fun k => by unfold quillworkref16_Normal.f; rw [if_neg h1]) hno
 rw [show (t == 1) = true by simp [h1], Bool.true_and]; by_cases h2 : l.length = 0
 case neg =>
  rw [show decide (l.length = 0) = false from decide_eq_false h2, Bool.false_and]; exact Ev.congr (fun k => by unfold quillworkref16_Normal.f; rw [if_pos h1, if_neg (by omega)]) hno
 rw [show decide (l.length = 0) = true from decide_eq_true h2, Bool.true_and]; by_cases h3 : tx.toList = []
 case neg =>
  have hx2 : tx.toList.isEmpty = false := by cases h : tx.toList with | nil => exact absurd h h3 | cons a b => rfl
  rw [hx2, Bool.false_and]; exact Ev.congr (fun k => by unfold quillworkref16_Normal.f; rw [if_pos h1, if_pos (by omega), if_neg h3]) hno
 rw [show tx.toList.isEmpty = true by rw [h3]; rfl, Bool.true_and]
 have hk : ∀ k, quillworkref16_kids_at 1000000000000 k t l tx ks [1] = some (kidsR ks false [1]) := fun k => by
  unfold quillworkref16_kids_at; rw [if_pos ⟨by omega, by decide, by decide, by decide⟩]; rfl
 have hi : ∀ k, quillworkref16_Inner_at 1000000000000 k t l tx ks = some (ints (innerP ⟨t, l, tx, ks⟩)) := fun k => by
  unfold quillworkref16_Inner_at; rw [if_pos ⟨by omega, by decide⟩]
 refine Ev.congr (fun k => by unfold quillworkref16_Normal.f; rw [if_pos h1, if_pos (by omega), if_pos h3]) (Ev.bind hsz (f := fun k t271 => (if t271 ≤ 2000 then ((quillworkref16_kids_at 1000000000000 k t l tx ks (([1] : List Int))).bind fun t275 => (if t275 = true then ((quillworkref16_Inner_at 1000000000000 k t l tx ks).bind fun t276 => (some (decide ((t276.length : Int) ≤ 8192)))) else (some false))) else (some false))) ?_); by_cases h4 : cntN ⟨t, l, tx, ks⟩ ≤ 2000
 ·rw [show decide (cntN ⟨t, l, tx, ks⟩ ≤ 2000) = true from decide_eq_true h4, Bool.true_and]; refine Ev.congr (f := fun _ => some (kidsR ks false [1] && decide ((innerP ⟨t, l, tx, ks⟩).length ≤ 8192))) (fun k => ?_) (Ev.now _); rw [if_pos (by omega), hk k, Option.bind_some, hi k, Option.bind_some, ints_len]; cases kidsR ks false [1]
  ·rw [if_neg (by decide), Bool.false_and]
  ·rw [if_pos rfl, Bool.true_and]; congr 1
   rw [Bool.eq_iff_iff, decide_eq_true_eq, decide_eq_true_eq]; omega
 ·rw [show decide (cntN ⟨t, l, tx, ks⟩ ≤ 2000) = false from decide_eq_false h4, Bool.false_and]; exact Ev.congr (fun k => by rw [if_neg (by omega)]) hno
theorem refNormal_calls (n : S25) (h : nsz n ≤ 1000000000) (A1 : Option Addr) (c1 : Nat) (A3 : Option Addr) (c3 : Nat) (w : World) (h1 : Kd.C k47 w A1 n.f1.length n.f1) (h2 : n.f1.length ≤ c1) (h3 : Kd.C k25 w A3 n.f3.length n.f3) (h4 : n.f3.length ≤ c3) :
 Calls Tryd.prog 13 #[.agg #[.int .i64 n.f0, .slice A1 n.f1.length c1, .string n.f2, .slice A3 n.f3.length c3]] w fun e w' => e = .returned (.bool (normalP n)) ∧ Below w.heap.size w w' := by
 obtain ⟨K, hK⟩ := refNormalTop_ev n h; rw [normal_eq]; exact quillworkref16_Normal.calls K n.f0 A1 c1 n.f1 n.f2 A3 c3 n.f3 _ w h1 h2 h3 h4 (hK K (Nat.le_refl _))
end Go.Proofs.YtbbikcmkcgoamaaDoor.Pp
