/- Joined by merge.py of this session: words, walks and plain laws of this claim. -/
import Derived.Test.YtbbikcmkcgoamaaDoorMkuM9
import Derived.Test.YtbbikcmkcgoamaaDoorMkuM14
import Derived.Stop.FmtQuoteTie
import Derived.Test.YtbbikcmkcgoamaaDoorMkuM6
import Derived.Test.YtbbikcmkcgoamaaDoorMkuM5
import Derived.Test.YtbbikcmkcgoamaaDoorMkuM3
import Derived.Test.YtbbikcmkcgoamaaDoorMkuM7
set_option linter.unusedSimpArgs false
set_option linter.unusedVariables false
namespace Go.Proofs.YtbbikcmkcgoamaaDoor.Pp
open Go.RowKit Go.Proofs.YtbbikcmkcgoamaaDoorW.PrintWords Go.Proofs.YtbbikcmkcgoamaaDoorW.PrintLast Go.Proofs.YtbbikcmkcgoamaaDoorW.PrintMore
theorem enc_list (c : Int) (h : okRune c) : (Utf8.encode c).data.toList = Lib.encodeRune c := by
 obtain ⟨r, rfl⟩ := Int.eq_ofNat_of_zero_le (show 0 ≤ c by unfold okRune at h; omega); have e := Go.Extern.FmtText.encode_eq r; unfold Lib.encodeRune; rw [← e]; unfold Go.Extern.FmtText.nums; rw [List.map_map]; have : ∀ b : UInt8, ((fun x : Int => x.toNat.toUInt8) ∘ fun b : UInt8 => (b.toNat : Int)) b = b := fun b => by simp
 conv => lhs; rw [← List.map_id (Utf8.encode (r : Int)).data.toList]
 exact List.map_congr_left (fun b _ => (this b).symm)
theorem fold_list : ∀ (ns : List Int), (∀ c ∈ ns, okRune c) → ∀ s : ByteArray, (ns.foldl (fun r n => r ++ Utf8.encode n) s).data.toList = s.data.toList ++ ns.flatMap Lib.encodeRune
 | [], _, s => by simp
 | c :: ns, h, s => by
  rw [List.foldl_cons, fold_list ns (fun x hx => h x (List.mem_cons_of_mem _ hx))]; rw [ByteArray.data_append, Array.toList_append, enc_list c (h c (List.mem_cons_self ..))]; simp
theorem anew_list (s : ByteArray) : (anewB s).data.toList = (runesOf s).flatMap Lib.encodeRune := by
 unfold anewB runesBytes; rw [fold_list _ (runesOf_ok s)]; rfl
theorem anew_size (s : ByteArray) : (anewB s).size ≤ 4 * s.size := by
 have h1 := runesBytes_size_le (runesOf s); have h2 := runesOf_le s; unfold anewB; omega
theorem bt_drop (t : ByteArray) (i : Nat) (b : UInt8) (R : List UInt8) (h : t.data.toList.drop i = b :: R) : i < t.size ∧ bt t (i : Int) = (b.toNat : Int) ∧ t.data.toList.drop (i + 1) = R := by
 have hl := congrArg List.length h; simp only [List.length_drop, List.length_cons, bytes_len] at hl; have hi : i < t.size := by omega
 refine ⟨hi, ?_, ?_⟩
 ·have hg : t.data.toList[i]? = some b := by
   have := congrArg (fun l => l[0]?) h; simpa [List.getElem?_drop] using this
  unfold bt; rw [dif_pos (by simpa using hi)]
  have e : t[((i : Int)).toNat]'(by simpa using hi) = b := by
   have h2 : t.data[i]? = some b := by rw [← Array.getElem?_toList]; exact hg
   have h3 := (Array.getElem?_eq_some_iff.1 h2).2; simpa [ByteArray.getElem_eq_getElem_data] using h3
  rw [e]
 ·rw [← List.drop_drop, h]; rfl
theorem bytesOf_lit (a : Array UInt8) : bytesOf (⟨a⟩ : ByteArray) = ints a.toList := rfl
section
variable {t : ByteArray} {v : Bool} {x : List Int} {i : Nat} {r : List Int} (hz : t.size ≤ 10000000000000) (hx : x.length ≤ 100000000000000)
include hz hx
theorem chars_esc {b : UInt8} {R : List UInt8} (hd : t.data.toList.drop i = b :: R) (l : List UInt8) (hb : (b.toNat = 38 ∧ l = [38, 97, 109, 112, 59]) ∨ (b.toNat = 60 ∧ l = [38, 108, 116, 59]) ∨ (b.toNat = 62 ∧ l = [38, 103, 116, 59]) ∨ (b.toNat = 34 ∧ v = true ∧ l = [38, 113, 117, 111, 116, 59]))
 (h : Ev (fun k => quillworkref16_chars.l0 k t v (x ++ ints l) ((i + 1 : Nat) : Int)) r) : Ev (fun k => quillworkref16_chars.l0 k t v x (i : Int)) r := by
 obtain ⟨hi, hbt, _⟩ := bt_drop t i b R hd; have c1 : (i : Int) < (t.size : Int) := by omega
 have c2 : (0 : Int) ≤ (i : Int) := by omega
 have hw : wrap64 ((i : Int) + 1) = ((i + 1 : Nat) : Int) := wrap64_of (by omega) (by omega); rcases hb with ⟨hb, rfl⟩ | ⟨hb, rfl⟩ | ⟨hb, rfl⟩ | ⟨hb, rfl, rfl⟩
 ·refine Ev.step (fun k => ?_) h; simp only [quillworkref16_chars.l0, if_pos c1, if_pos c2, hbt, hb]; rw [if_pos (by decide), if_pos (by omega), bytesOf_lit, hw]
 ·refine Ev.step (fun k => ?_) h; simp only [quillworkref16_chars.l0, if_pos c1, if_pos c2, hbt, hb]; rw [if_neg (by decide), if_pos (by decide), if_pos (by omega), bytesOf_lit, hw]
 ·refine Ev.step (fun k => ?_) h; simp only [quillworkref16_chars.l0, if_pos c1, if_pos c2, hbt, hb]; rw [if_neg (by decide), if_neg (by decide), if_pos (by decide), if_pos (by omega), bytesOf_lit, hw]
 ·refine Ev.step (f := fun k => quillworkref16_chars.j1 k t true x (i : Int) true) (fun k => ?_) (Ev.step (fun k => ?_) h); ·simp only [quillworkref16_chars.l0, if_pos c1, if_pos c2, hbt, hb]; rw [if_neg (by decide), if_neg (by decide), if_neg (by decide), if_pos (by decide)]
  ·simp only [quillworkref16_chars.j1]; rw [if_pos trivial, if_pos (by omega), bytesOf_lit, hw]
theorem chars_one {b : UInt8} {R : List UInt8} (hd : t.data.toList.drop i = b :: R) (h1 : b.toNat ≠ 38) (h2 : b.toNat ≠ 60) (h3 : b.toNat ≠ 62) (h4 : ¬ (b.toNat = 34 ∧ v = true)) (h5 : b.toNat = 194 → ∃ c R', R = c :: R' ∧ c.toNat ≠ 160)
 (h : Ev (fun k => quillworkref16_chars.l0 k t v (x ++ ints [b]) ((i + 1 : Nat) : Int)) r) : Ev (fun k => quillworkref16_chars.l0 k t v x (i : Int)) r := by
 obtain ⟨hi, hbt, hd2⟩ := bt_drop t i b R hd; have c1 : (i : Int) < (t.size : Int) := by omega
 have c2 : (0 : Int) ≤ (i : Int) := by omega
 have hw : wrap64 ((i : Int) + 1) = ((i + 1 : Nat) : Int) := wrap64_of (by omega) (by omega); have n1 : ¬ ((b.toNat : Int) = 38) := by omega
 have n2 : ¬ ((b.toNat : Int) = 60) := by omega
 have n3 : ¬ ((b.toNat : Int) = 62) := by omega
 have hj : ∀ k, quillworkref16_chars.l0 (k + 1) t v x (i : Int) = quillworkref16_chars.j1 k t v x (i : Int) false := fun k => by
  simp only [quillworkref16_chars.l0, if_pos c1, if_pos c2, hbt, if_neg n1, if_neg n2, if_neg n3]; by_cases hq : (b.toNat : Int) = 34
  ·rw [if_pos hq]
   have : v = false := by
    cases v
    ·rfl
    ·exact absurd ⟨by omega, rfl⟩ h4
   rw [this]
  ·rw [if_neg hq]
 refine Ev.step hj (Ev.step (fun k => ?_) h); simp only [quillworkref16_chars.j1, if_pos c1, if_pos c2, hbt, hw]; rw [if_neg (by decide)]; by_cases hq : b.toNat = 194
 ·obtain ⟨c, R', rfl, hc⟩ := h5 hq; obtain ⟨hi2, hbt2, _⟩ := bt_drop t (i + 1) c R' hd2; rw [if_pos (by omega), if_pos (by omega), if_pos (by omega), hbt2, if_neg (by omega), if_pos (by omega)]; rfl
 ·rw [if_neg (by omega), if_pos (by omega)]; rfl
theorem chars_nbsp {R : List UInt8} {b c : UInt8} (hd : t.data.toList.drop i = b :: c :: R) (hb : b.toNat = 194) (hc : c.toNat = 160)
 (h : Ev (fun k => quillworkref16_chars.l0 k t v (x ++ ints [38, 110, 98, 115, 112, 59]) ((i + 2 : Nat) : Int)) r) : Ev (fun k => quillworkref16_chars.l0 k t v x (i : Int)) r := by
 obtain ⟨hi, hbt, hd2⟩ := bt_drop t i b _ hd; obtain ⟨hi2, hbt2, _⟩ := bt_drop t (i + 1) c R hd2; have c1 : (i : Int) < (t.size : Int) := by omega
 have c2 : (0 : Int) ≤ (i : Int) := by omega
 have hw : wrap64 ((i : Int) + 1) = ((i + 1 : Nat) : Int) := wrap64_of (by omega) (by omega); have hw2 : wrap64 (((i + 1 : Nat) : Int) + 1) = ((i + 2 : Nat) : Int) := wrap64_of (by omega) (by omega); refine Ev.step (f := fun k => quillworkref16_chars.j1 k t v x (i : Int) false) (fun k => ?_) (Ev.step (fun k => ?_) h)
 ·simp only [quillworkref16_chars.l0, if_pos c1, if_pos c2, hbt, hb]; rw [if_neg (by decide), if_neg (by decide), if_neg (by decide), if_neg (by decide)]
 ·simp only [quillworkref16_chars.j1, if_pos c1, if_pos c2, hbt, hb, hw]; rw [if_neg (by decide), if_pos (by decide), if_pos (by omega), if_pos (by omega), hbt2, hc, if_pos (by decide), if_pos (by omega), bytesOf_lit, hw2]
end
theorem u8_nat (z : Int) (h0 : 0 ≤ z) (h1 : z < 256) : (z.toNat.toUInt8).toNat = z.toNat := by
 simp
 omega
theorem chars_bytes {t : ByteArray} {v : Bool} {r : List Int} (hz : t.size ≤ 10000000000000) : ∀ (l : List UInt8) (x : List Int) (i : Nat) (R : List UInt8), x.length + l.length ≤ 100000000000000 → t.data.toList.drop i = l ++ R → (∀ b ∈ l, 128 ≤ b.toNat) → (∀ b l1 l2, l = l1 ++ b :: l2 → b.toNat = 194 → ∃ c l3, l2 = c :: l3 ∧ c.toNat ≠ 160) →
 Ev (fun k => quillworkref16_chars.l0 k t v (x ++ ints l) ((i + l.length : Nat) : Int)) r → Ev (fun k => quillworkref16_chars.l0 k t v x (i : Int)) r
 | [], x, i, R, _, _, _, _, h => by simpa [ints] using h
 | b :: l, x, i, R, hx, hd, hb, h5, h => by
  have h128 := hb b (List.mem_cons_self ..); refine chars_one hz (by simp at hx; omega) hd (by omega) (by omega) (by omega) (by omega) (fun e => ?_) ?_
  ·obtain ⟨c, l3, rfl, hc⟩ := h5 b [] l rfl e; exact ⟨c, l3 ++ R, rfl, hc⟩
  ·have hd2 := (bt_drop t i b (l ++ R) hd).2.2; refine chars_bytes hz l (x ++ ints [b]) (i + 1) R (by rw [List.length_append, ints_len]; simp at hx ⊢; omega) hd2 (fun c hc => hb c (List.mem_cons_of_mem _ hc)) (fun c l1 l2 e e2 => h5 c (b :: l1) l2 (by rw [e]; rfl) e2) ?_; have e1 : x ++ ints [b] ++ ints l = x ++ ints (b :: l) := by rw [List.append_assoc, ← ints_append]; rfl
   have e2 : i + 1 + l.length = i + (b :: l).length := by simp; omega
   rw [e1, e2]; exact h
theorem chars_rune {t : ByteArray} {v : Bool} {r : List Int} (hz : t.size ≤ 10000000000000) (c : Int) (hc : okRune c) (x : List Int) (i : Nat) (R : List UInt8) (hx : x.length + 8 ≤ 100000000000000) (hd : t.data.toList.drop i = Lib.encodeRune c ++ R)
 (h : Ev (fun k => quillworkref16_chars.l0 k t v (x ++ ints (escR v c)) ((i + (Lib.encodeRune c).length : Nat) : Int)) r) : Ev (fun k => quillworkref16_chars.l0 k t v x (i : Int)) r := by
 unfold okRune at hc; by_cases h1 : c ≤ 127
 ·have e : Lib.encodeRune c = [c.toNat.toUInt8] := by unfold Lib.encodeRune; rw [Lib.encodeRuneZ_one (by omega) h1]; rfl
  have hn : (c.toNat.toUInt8).toNat = c.toNat := u8_nat c (by omega) (by omega); rw [e] at hd h
  have esc : ∀ l : List UInt8, escR v c = l → ((c = 38 ∧ l = [38, 97, 109, 112, 59]) ∨ (c = 60 ∧ l = [38, 108, 116, 59]) ∨ (c = 62 ∧ l = [38, 103, 116, 59]) ∨ (c = 34 ∧ v = true ∧ l = [38, 113, 117, 111, 116, 59])) → Ev (fun k => quillworkref16_chars.l0 k t v x (i : Int)) r := fun l e2 hl => by
   rw [e2] at h; refine chars_esc hz (by omega) hd l ?_ h; rcases hl with ⟨a, b⟩ | ⟨a, b⟩ | ⟨a, b⟩ | ⟨a, b, d⟩
   ·exact .inl ⟨by omega, b⟩
   ·exact .inr (.inl ⟨by omega, b⟩)
   ·exact .inr (.inr (.inl ⟨by omega, b⟩))
   ·exact .inr (.inr (.inr ⟨by omega, b, d⟩))
  by_cases k1 : c = 38
  ·exact esc _ (by unfold escR; rw [if_pos k1]) (.inl ⟨k1, rfl⟩)
  by_cases k2 : c = 60
  ·exact esc _ (by unfold escR; rw [if_neg k1, if_pos k2]) (.inr (.inl ⟨k2, rfl⟩))
  by_cases k3 : c = 62
  ·exact esc _ (by unfold escR; rw [if_neg k1, if_neg k2, if_pos k3]) (.inr (.inr (.inl ⟨k3, rfl⟩)))
  by_cases k4 : c = 34 ∧ v = true
  ·exact esc _ (by unfold escR; rw [if_neg k1, if_neg k2, if_neg k3, if_neg (by omega), if_pos k4]) (.inr (.inr (.inr ⟨k4.1, k4.2, rfl⟩)))
  have e2 : escR v c = [c.toNat.toUInt8] := by unfold escR; rw [if_neg k1, if_neg k2, if_neg k3, if_neg (by omega), if_neg k4, e]
  rw [e2] at h; exact chars_one hz (by omega) hd (by omega) (by omega) (by omega) (fun q => k4 ⟨by omega, q.2⟩) (fun q => by omega) h
 ·by_cases h2 : c ≤ 2047
  ·have e : Lib.encodeRune c = [(192 + c / 64).toNat.toUInt8, (128 + c % 64).toNat.toUInt8] := by unfold Lib.encodeRune; rw [Lib.encodeRuneZ_two (by omega) h2]; rfl
   have n1 := u8_nat (192 + c / 64) (by omega) (by omega); have n2 := u8_nat (128 + c % 64) (by omega) (by omega); by_cases h160 : c = 160
   ·subst h160; have e2 : escR v 160 = [38, 110, 98, 115, 112, 59] := by unfold escR; rfl
    rw [e2, e] at h; rw [e] at hd; exact chars_nbsp hz (by omega) hd (by rw [n1]; rfl) (by rw [n2]; rfl) h
   ·have e2 : escR v c = Lib.encodeRune c := by unfold escR; rw [if_neg (by omega), if_neg (by omega), if_neg (by omega), if_neg h160, if_neg (by omega)]
    rw [e2] at h; refine chars_bytes hz (Lib.encodeRune c) x i R (by rw [e]; simp; omega) hd (fun b hb => ?_) (fun b l1 l2 el eb => ?_) h
    ·rw [e] at hb; rcases List.mem_cons.1 hb with rfl | hb
     ·rw [n1]; omega
     ·rcases List.mem_cons.1 hb with rfl | hb
      ·rw [n2]; omega
      ·cases hb
    ·rw [e] at el; match l1, el with
     | [], el =>
      simp only [List.nil_append, List.cons.injEq] at el; obtain ⟨rfl, rfl⟩ := el; exact ⟨_, [], rfl, by rw [n2]; rw [n1] at eb; omega⟩
     | [a], el =>
      simp only [List.cons_append, List.nil_append, List.cons.injEq] at el; obtain ⟨_, rfl, rfl⟩ := el; rw [n2] at eb; omega
     | a :: a2 :: l1, el =>
      have := congrArg List.length el; simp at this
  ·have e2 : escR v c = Lib.encodeRune c := by unfold escR; rw [if_neg (by omega), if_neg (by omega), if_neg (by omega), if_neg (by omega), if_neg (by omega)]
   rw [e2] at h
   have key : ∀ z : List Int, Lib.encodeRuneZ c = z → z.length ≤ 4 → (∀ y ∈ z, 128 ≤ y ∧ y < 256 ∧ y ≠ 194) → Ev (fun k => quillworkref16_chars.l0 k t v x (i : Int)) r := fun z ez hl hy => by
    have e : Lib.encodeRune c = z.map fun y => y.toNat.toUInt8 := by unfold Lib.encodeRune; rw [ez]
    refine chars_bytes hz (Lib.encodeRune c) x i R (by rw [e]; simp; omega) hd (fun b hb => ?_) (fun b l1 l2 el eb => ?_) h; ·rw [e] at hb; obtain ⟨y, h1, rfl⟩ := List.mem_map.1 hb; obtain ⟨a1, a2, a3⟩ := hy y h1; rw [u8_nat y (by omega) a2]; omega
    ·have hb : b ∈ Lib.encodeRune c := by rw [el]; simp
     rw [e] at hb; obtain ⟨y, h1, rfl⟩ := List.mem_map.1 hb; obtain ⟨a1, a2, a3⟩ := hy y h1; rw [u8_nat y (by omega) a2] at eb; omega
   by_cases h3 : c ≤ 65535
   ·refine key _ (by unfold Lib.encodeRuneZ; rw [if_neg (by omega), if_neg (by omega), if_pos (by omega)]) (by simp) (fun y hy => ?_); simp only [List.mem_cons, List.mem_nil_iff, or_false] at hy; omega
   ·refine key _ (by unfold Lib.encodeRuneZ; rw [if_neg (by omega), if_neg (by omega), if_neg (by omega), if_pos (by omega)]) (by simp) (fun y hy => ?_); simp only [List.mem_cons, List.mem_nil_iff, or_false] at hy; omega
theorem chars_all {t : ByteArray} {v : Bool} (hz : t.size ≤ 10000000000000) : ∀ (rs : List Int), (∀ c ∈ rs, okRune c) → ∀ (x : List Int) (i : Nat), x.length + 8 * rs.length ≤ 99999999999999 → t.data.toList.drop i = rs.flatMap Lib.encodeRune →
 Ev (fun k => quillworkref16_chars.l0 k t v x (i : Int)) (x ++ ints (rs.flatMap (escR v)))
 | [], _, x, i, hx, hd => by
  have hl : t.size ≤ i := by
   have := congrArg List.length hd; simp [bytes_len] at this
   omega
  refine Ev.step (f := fun _ => some x) (fun k => ?_) (by simpa [ints] using Ev.now x); simp only [quillworkref16_chars.l0]; rw [if_neg (by omega)]
 | c :: rs, h, x, i, hx, hd => by
  have hle := escR_le v c; refine chars_rune hz c (h c (List.mem_cons_self ..)) x i (rs.flatMap Lib.encodeRune) (by simp at hx; omega) (by rw [hd, List.flatMap_cons]) ?_
  have hd2 : t.data.toList.drop (i + (Lib.encodeRune c).length) = rs.flatMap Lib.encodeRune := by
   rw [← List.drop_drop, hd, List.flatMap_cons, List.drop_left]
  have h2 := chars_all (v := v) hz rs (fun y hy => h y (List.mem_cons_of_mem _ hy)) (x ++ ints (escR v c)) (i + (Lib.encodeRune c).length) (by rw [List.length_append, ints_len]; simp at hx; omega) hd2; rw [List.append_assoc, ← ints_append] at h2; rw [List.flatMap_cons]; exact h2
theorem refChars_ev (s : ByteArray) (v : Bool) (hs : s.size ≤ 1000000000000) : Ev (fun k => quillworkref16_chars.f k s v) (ints (charsP s v)) := by
 have hz := anew_size s; have hr := runesOf_le s; have h := chars_all (t := anewB s) (v := v) (by omega) (runesOf s) (runesOf_ok s) [] 0 (by simp; omega) (by rw [List.drop_zero]; exact anew_list s); refine Ev.congr (fun k => ?_) h; unfold quillworkref16_chars.f quillworkref08_Anew.f; rw [if_pos (by omega)]; rfl
theorem refChars_calls (s : ByteArray) (q : Bool) (v : World) (hs : s.size ≤ 1000000000000) : Calls Tryd.prog 19 #[.string s, .bool q] v fun e w' => ∃ v0 : Value, e = .returned v0 ∧ Kd.R (Kd.int .u8) 5 w' v.heap.size (fun _ => True) v0 (ints (charsP s q)) ∧ Below v.heap.size v w' := by
 obtain ⟨K, hK⟩ := refChars_ev s q hs; exact quillworkref16_chars.calls K s q _ v (hK K (Nat.le_refl _))
end Go.Proofs.YtbbikcmkcgoamaaDoor.Pp
namespace Go.Proofs.YtbbikcmkcgoamaaDoor.Pp
open Go.RowKit Go.Proofs.YtbbikcmkcgoamaaDoorW.PrintWords Go.Proofs.YtbbikcmkcgoamaaDoorW.PrintLast Go.Proofs.YtbbikcmkcgoamaaDoorW.PrintMore
theorem refClass_eq (k : Nat) (t : Int) : quillworkref02_Class.f (k + 4) t = some (tclass t) := by
 unfold tclass; by_cases h0 : t < 0
 ·rw [if_neg (by omega)]; unfold quillworkref02_Class.f; rw [if_pos h0]; simp [quillworkref02_Class.j0]
 by_cases h1 : 16 < t
 ·rw [if_neg (by omega)]; unfold quillworkref02_Class.f; rw [if_neg h0]; simp [quillworkref02_Class.j0, h1]
 rw [if_pos (by omega)]; have ht : t = 0 ∨ t = 1 ∨ t = 2 ∨ t = 3 ∨ t = 4 ∨ t = 5 ∨ t = 6 ∨ t = 7 ∨ t = 8 ∨ t = 9 ∨ t = 10 ∨ t = 11 ∨ t = 12 ∨ t = 13 ∨ t = 14 ∨ t = 15 ∨ t = 16 := by omega
 rcases ht with rfl | rfl | rfl | rfl | rfl | rfl | rfl | rfl | rfl | rfl | rfl | rfl | rfl | rfl | rfl | rfl | rfl <;> rfl
theorem refClass_ev (t : Int) : Ev (fun k => quillworkref02_Class.f k t) (tclass t) := ⟨4, fun k hk => by
 obtain ⟨m, rfl⟩ : ∃ m, k = m + 4 := ⟨k - 4, by omega⟩; exact refClass_eq m t⟩
def okN (b : Int) : Prop := (97 ≤ b ∧ b ≤ 122) ∨ (48 ≤ b ∧ b ≤ 57) ∨ b = 45
theorem name_l0 (s : ByteArray) (hs : s.size ≤ 9223372036854775807) : ∀ (n i : Nat), s.size - i = n → 1 ≤ i → ∀ m, n ≤ m → Ev (fun k => quillworkref03_Name.l0 k s (i : Int)) (nameFrom s m i) := by
 intro n; induction n with
 | zero =>
  intro i hi h1 m hm; rw [nameFrom_end s m i (by omega)]; refine Ev.step (f := fun _ => some true) (fun k => ?_) (Ev.now _); simp only [quillworkref03_Name.l0]; rw [if_neg (by omega)]
 | succ n ih =>
  intro i hi h1 m hm; obtain ⟨m, rfl⟩ : ∃ q, m = q + 1 := ⟨m - 1, by omega⟩; have hlt : i < s.size := by omega
  have c1 : (i : Int) < (s.size : Int) := by omega
  have c2 : (0 : Int) ≤ (i : Int) := by omega
  have hw : wrap64 ((i : Int) + 1) = ((i + 1 : Nat) : Int) := wrap64_of (by omega) (by omega); have hbt : bt s (i : Int) = ((s[i]'hlt).toNat : Int) := by unfold bt; rw [dif_pos (by simpa using hlt)]; rfl
  unfold nameFrom; rw [if_pos hlt]
  have goOn : okN (bt s (i : Int)) → ∀ k, quillworkref03_Name.l0 (k + 1) s (i : Int) = quillworkref03_Name.l0 k s ((i + 1 : Nat) : Int) := fun ho k => by
   simp only [quillworkref03_Name.l0, if_pos c1, if_pos c2, hw]; unfold okN at ho; repeat' split
   all_goals first | rfl | omega
  have stop : ¬ okN (bt s (i : Int)) → ∀ k, quillworkref03_Name.l0 (k + 1) s (i : Int) = some false := fun ho k => by
   simp only [quillworkref03_Name.l0, if_pos c1, if_pos c2, hw]; unfold okN at ho; repeat' split
   all_goals first | rfl | omega
  by_cases ha : (s[i]'hlt).toNat < 128
  ·rw [decode_ascii s i hlt ha]; by_cases ho : okN (bt s (i : Int))
   ·have hb : nameBad i ((s[i]'hlt).toNat : Int) = false := by
     rw [hbt] at ho; unfold okN at ho; unfold nameBad; simp only [Bool.and_eq_false_iff, Bool.or_eq_false_iff, Bool.not_eq_false', Bool.and_eq_true, decide_eq_true_eq, decide_eq_false_iff_not]; omega
    simp only [hb]; exact Ev.step (goOn ho) (ih (i + 1) (by omega) (by omega) m (by omega))
   ·have hb : nameBad i ((s[i]'hlt).toNat : Int) = true := by
     rw [hbt] at ho; unfold okN at ho; unfold nameBad; simp only [Bool.and_eq_true, Bool.or_eq_true, Bool.not_eq_true', Bool.and_eq_false_iff, decide_eq_true_eq, decide_eq_false_iff_not]; omega
    simp only [hb, if_true]; exact Ev.step (f := fun _ => some false) (stop ho) (Ev.now _)
  ·have hd := decode_high s i hlt (by omega); have ho : ¬ okN (bt s (i : Int)) := by rw [hbt]; unfold okN; omega
   have hb : nameBad i ((Utf8.decode s i).1 : Int) = true := by
    unfold nameBad; simp only [Bool.and_eq_true, Bool.or_eq_true, Bool.not_eq_true', Bool.and_eq_false_iff, decide_eq_true_eq, decide_eq_false_iff_not]; have := hd.1; omega
   rw [hb, if_pos rfl]; exact Ev.step (f := fun _ => some false) (stop ho) (Ev.now _)
theorem refName_ev (s : ByteArray) (hs : s.size ≤ 9223372036854775807) : Ev (fun k => quillworkref03_Name.f k s) (nameOk s) := by
 have hj : Ev (fun k => quillworkref03_Name.j0 k s true) false := Ev.step (f := fun _ => some false) (fun k => by simp [quillworkref03_Name.j0]) (Ev.now _); unfold nameOk; by_cases h1 : s.size = 0
 ·rw [decide_eq_false (by omega), Bool.false_and, Bool.false_and]; refine Ev.congr (fun k => ?_) hj; unfold quillworkref03_Name.f; rw [if_pos (by omega)]
 by_cases h2 : 16 < s.size
 ·rw [decide_eq_false (show ¬ s.size ≤ 16 by omega), Bool.and_false, Bool.false_and]; refine Ev.congr (fun k => ?_) hj; unfold quillworkref03_Name.f; rw [if_neg (by omega), if_pos (by omega)]
 rw [decide_eq_true (show 1 ≤ s.size by omega), decide_eq_true (show s.size ≤ 16 by omega), Bool.true_and, Bool.true_and]; have hlt : 0 < s.size := by omega
 have hbt : bt s (0 : Int) = ((s[0]'hlt).toNat : Int) := by unfold bt; rw [dif_pos (by simpa using hlt)]; rfl
 have hf : ∀ k, quillworkref03_Name.f k s = if bt s 0 < 97 then quillworkref03_Name.j0 k s true else quillworkref03_Name.j0 k s (decide (bt s 0 > 122)) := fun k => by
  unfold quillworkref03_Name.f; rw [if_neg (by omega), if_neg (by omega), if_pos (by omega)]
 have hl : ∀ (b : UInt8), nameFrom s s.size 0 = nameFrom s s.size 0 := fun _ => rfl
 obtain ⟨m, hm⟩ : ∃ m, s.size = m + 1 := ⟨s.size - 1, by omega⟩; by_cases hg : 97 ≤ bt s 0 ∧ bt s 0 ≤ 122
 ·have ha : (s[0]'hlt).toNat < 128 := by omega
  have hv := name_l0 s hs s.size 0
  have e : nameFrom s s.size 0 = nameFrom s m 1 := by
   rw [hm]; conv => lhs; unfold nameFrom
   rw [if_pos hlt, decode_ascii s 0 hlt ha]
   have hb : nameBad 0 ((s[0]'hlt).toNat : Int) = false := by
    unfold nameBad; simp only [Bool.and_eq_false_iff, Bool.not_eq_false', Bool.and_eq_true, decide_eq_true_eq]; omega
   simp only [hb]; rfl
  rw [e]; have h0 := name_l0 s hs (s.size - 1) 1 rfl (Nat.le_refl _) m (by omega); refine Ev.congr (fun k => (hf k).trans (by rw [if_neg (by omega)])) (Ev.step (f := fun k => quillworkref03_Name.l0 k s 0) (fun k => ?_) (Ev.step (fun k => ?_) h0))
  ·simp only [quillworkref03_Name.j0]; rw [if_neg (by simp; omega)]
  ·have c1 : (0 : Int) < (s.size : Int) := by omega
   simp only [quillworkref03_Name.l0, if_pos c1]; rw [if_pos (Int.le_refl 0), if_pos (by omega), if_pos hg.2, show wrap64 ((0 : Int) + 1) = ((1 : Nat) : Int) from wrap64_of (by omega) (by omega)]
 ·have e : nameFrom s s.size 0 = false := by
   rw [hm]; unfold nameFrom; rw [if_pos hlt]
   have hb : nameBad 0 ((Utf8.decode s 0).1 : Int) = true := by
    unfold nameBad; simp only [Bool.and_eq_true, Bool.or_eq_true, Bool.not_eq_true', Bool.and_eq_false_iff, decide_eq_true_eq, decide_eq_false_iff_not]; refine ⟨?_, .inl trivial⟩; by_cases ha : (s[0]'hlt).toNat < 128
    ·rw [decode_ascii s 0 hlt ha]; show ¬ (97 : Int) ≤ ((s[0]'hlt).toNat : Int) ∨ ¬ ((s[0]'hlt).toNat : Int) ≤ 122
     omega
    ·have hd := (decode_high s 0 hlt (by omega)).1; omega
   rw [hb, if_pos rfl]
  rw [e]; refine Ev.congr (fun k => ?_) hj; rw [hf k]; by_cases hl : bt s 0 < 97
  ·rw [if_pos hl]
  ·rw [if_neg hl, decide_eq_true (by omega)]
theorem refMay_eq (k : Nat) (c : Int) : quillworkref01_May.f (k + 6) c = some (charOk c) := by
 unfold quillworkref01_May.f quillworkref01_Class.f; have key : ∀ o : Option Int, (∃ v, o = some v ∧ charOk c = decide (v ≥ 2)) → (o.bind fun t => some (decide (t ≥ 2))) = some (charOk c) := fun o ⟨v, h1, h2⟩ => by rw [h1, h2]; rfl
 refine key _ ?_
 have ite_ok : ∀ (p : Prop) [Decidable p] (a b : Option Int), (p → ∃ v, a = some v ∧ charOk c = decide (v ≥ 2)) → (¬ p → ∃ v, b = some v ∧ charOk c = decide (v ≥ 2)) → ∃ v, (if p then a else b) = some v ∧ charOk c = decide (v ≥ 2) := by
  intro p _ a b h1 h2; by_cases h : p
  ·rw [if_pos h]; exact h1 h
  ·rw [if_neg h]; exact h2 h
 simp only [quillworkref01_Class.j0, quillworkref01_Class.j1, quillworkref01_Class.j2, quillworkref01_Class.j3]; repeat' (refine ite_ok _ _ _ (fun _ => ?_) (fun _ => ?_))
 all_goals
  refine ⟨_, rfl, ?_⟩; unfold charOk Utf8.valid; rw [Bool.eq_iff_iff]; (try simp only [Bool.true_and, beq_iff_eq, bne_iff_ne, decide_eq_true_eq, Bool.false_eq_true, Bool.or_eq_true, Bool.and_eq_true, Bool.or_eq_false_iff, Bool.and_eq_false_iff, decide_eq_false_iff_not, not_false_eq_true, not_true_eq_false, Bool.not_eq_true'] at *) <;> first | omega | (simp; omega)
theorem refMay_ev (c : Int) : Ev (fun k => quillworkref01_May.f k c) (charOk c) := ⟨6, fun k hk => by
 obtain ⟨m, rfl⟩ : ∃ m, k = m + 6 := ⟨k - 6, by omega⟩; exact refMay_eq m c⟩
theorem value_l0 (rs : List Int) (hl : rs.length ≤ 9223372036854775807) : ∀ (n i : Nat), rs.length - i = n → Ev (fun k => quillworkref03_Value.l0 k rs (i : Int)) ((rs.drop i).all charOk) := by
 intro n; induction n with
 | zero =>
  intro i hi; rw [List.drop_of_length_le (by omega)]; refine Ev.step (f := fun _ => some true) (fun k => ?_) (Ev.now _); simp only [quillworkref03_Value.l0]; rw [if_neg (by omega)]
 | succ n ih =>
  intro i hi; have hlt : i < rs.length := by omega
  have c1 : (i : Int) < (rs.length : Int) := by omega
  have c2 : (0 : Int) ≤ (i : Int) := by omega
  have hw : wrap64 ((i : Int) + 1) = ((i + 1 : Nat) : Int) := wrap64_of (by omega) (by omega); have hrd : rd rs (i : Int) = rs[i] := by simp [rd, List.getD_eq_getElem?_getD, List.getElem?_eq_getElem hlt]
  rw [List.drop_eq_getElem_cons hlt, List.all_cons]; refine Ev.step (fun k => ?_) (Ev.bind (refMay_ev rs[i]) (f := fun k t => if t = true then quillworkref03_Value.l0 k rs (wrap64 ((i : Int) + 1)) else some false) ?_); ·simp only [quillworkref03_Value.l0, if_pos c1, if_pos c2, hrd]
  ·cases hc : charOk rs[i]
   ·exact Ev.congr (fun k => rfl) (Ev.now _)
   ·rw [Bool.true_and]; exact Ev.congr (fun k => by rw [if_pos rfl, hw]) (ih (i + 1) (by omega))
theorem valueFrom_all (s : ByteArray) : ∀ n i, valueFrom s n i = (runesFrom s n i).all charOk
 | 0, _ => rfl
 | n + 1, i => by
  unfold valueFrom runesFrom; split
  ·rw [List.all_cons, valueFrom_all s n]
  ·rfl
theorem anew_len (s : ByteArray) : ∀ (n i : Nat), s.size - i ≤ n → s.size - i ≤ ((runesFrom s n i).flatMap Lib.encodeRune).length ∧ (((runesFrom s n i).flatMap Lib.encodeRune).length = s.size - i → Lib.validGoD n (s.data.toList.drop i) = true)
 | 0, i, hn => ⟨by omega, fun _ => rfl⟩
 | n + 1, i, hn => by
  have hlen := bytes_len s; by_cases hi : i < s.size
  ·have hne : s.data.toList.drop i ≠ [] := by
    intro e; have := congrArg List.length e; simp only [List.length_drop, List.length_nil, hlen] at this; omega
   have hw := width_pos s i hi; obtain ⟨h1, h2⟩ := anew_len s n (i + (Utf8.decode s i).2) (by omega); rw [runesFrom_step s n i hi, List.flatMap_cons, List.length_append]; by_cases hbad : (Lib.decodeL (s.data.toList.drop i)).1 = 65533 ∧ (Lib.decodeL (s.data.toList.drop i)).2 = 1
   ·rw [Lib.decodeL_drop] at hbad; have e3 : (Lib.encodeRune ((Utf8.decode s i).1 : Int)).length = 3 := by rw [hbad.1]; rfl
    rw [e3]; rw [hbad.2] at h1 ⊢; exact ⟨by omega, fun h => by omega⟩
   ·have e1 := Lib.encode_decode _ hne hbad; rw [Lib.decodeL_drop] at e1
    have hle : (Utf8.decode s i).2 ≤ s.size - i := by
     have := Lib.decodeL_le _ hne; rw [Lib.decodeL_drop, List.length_drop, hlen] at this; exact this
    have e2 : (Lib.encodeRune ((Utf8.decode s i).1 : Int)).length = (Utf8.decode s i).2 := by
     rw [e1, List.length_take, List.length_drop, hlen]; omega
    rw [e2]; refine ⟨by omega, fun h => ?_⟩; unfold Lib.validGoD; rw [if_neg hne, if_neg hbad, Lib.decodeL_drop, List.drop_drop]; exact h2 (by omega)
  ·rw [runesFrom_end s (n + 1) i hi]; refine ⟨by simp; omega, fun _ => ?_⟩; unfold Lib.validGoD; rw [if_pos (List.drop_of_length_le (by omega))]
theorem anew_valid (s : ByteArray) : anewB s = s ↔ Lib.validD s.data.toList = true := by
 constructor
 ·intro h; have h1 := congrArg (fun b : ByteArray => b.data.toList.length) h; simp only [anew_list, bytes_len] at h1; have h2 := (anew_len s s.size 0 (by omega)).2 (by simpa [runesOf] using h1); unfold Lib.validD; rw [bytes_len]; simpa using h2
 ·intro h; apply ByteArray.ext
  apply Array.toList_inj.1
  rw [anew_list]; have := runes_back s s.size 0 (by omega) (by rw [List.drop_zero]; unfold Lib.validD at h; rw [bytes_len] at h; exact h); simpa [runesOf] using this
theorem refValue_ev (s : ByteArray) (hs : s.size ≤ 70368744177664) : Ev (fun k => quillworkref03_Value.f k s) (valueOk s) := by
 have hr := runesOf_le s; have h0 := value_l0 (runesOf s) (by omega) (runesOf s).length 0 (by simp); rw [List.drop_zero] at h0; have e0 : valueFrom s s.size 0 = (runesOf s).all charOk := valueFrom_all s s.size 0
 have hf : ∀ k, quillworkref03_Value.f k s = if (s.size : Int) > 200 then quillworkref03_Value.j0 k (runesOf s) true else quillworkref03_Value.j0 k (runesOf s) ((anewB s).toList != s.toList) := fun k => by
  unfold quillworkref03_Value.f quillworkref01_Runes.f; rw [if_pos hs]; rfl
 have hj : Ev (fun k => quillworkref03_Value.j0 k (runesOf s) true) false := Ev.step (f := fun _ => some false) (fun k => by simp [quillworkref03_Value.j0]) (Ev.now _); unfold valueOk; rw [e0]; by_cases h1 : 200 < s.size
 ·rw [decide_eq_false (show ¬ s.size ≤ 200 by omega), Bool.false_and, Bool.and_false]; exact Ev.congr (fun k => (hf k).trans (by rw [if_pos (by omega)])) hj
 rw [decide_eq_true (show s.size ≤ 200 by omega), Bool.true_and]; by_cases h2 : anewB s = s
 ·rw [(anew_valid s).1 h2, Bool.and_true]; refine Ev.congr (fun k => (hf k).trans (by rw [if_neg (by omega)])) (Ev.step (fun k => ?_) h0); simp only [quillworkref03_Value.j0]; rw [h2, if_neg (by simp)]; rfl
 ·have hv : Lib.validD s.data.toList = false := by
   cases h3 : Lib.validD s.data.toList
   ·rfl
   ·exact absurd ((anew_valid s).2 h3) h2
  rw [hv, Bool.and_false]
  have hn : ((anewB s).toList != s.toList) = true := by
   rw [bne_iff_ne]; exact fun e => h2 (ba_toList_inj.1 e)
  exact Ev.congr (fun k => (hf k).trans (by rw [if_neg (by omega), hn])) hj
theorem find_l0 (l : List S47) (name : ByteArray) (hl : l.length ≤ 9223372036854775807) : ∀ (n i : Nat), l.length - i = n → Ev (fun k => quillworkref03_Find.l0 k l name (i : Int)) (findA (l.drop i) name i) := by
 intro n; induction n with
 | zero =>
  intro i hi; rw [List.drop_of_length_le (by omega)]; refine Ev.step (f := fun _ => some (-1)) (fun k => ?_) (Ev.now _); simp only [quillworkref03_Find.l0]; rw [if_neg (by omega)]
 | succ n ih =>
  intro i hi; have hlt : i < l.length := by omega
  have c1 : (i : Int) < (l.length : Int) := by omega
  have c2 : (0 : Int) ≤ (i : Int) := by omega
  have hw : wrap64 ((i : Int) + 1) = ((i + 1 : Nat) : Int) := wrap64_of (by omega) (by omega); rw [List.drop_eq_getElem_cons hlt]; unfold findA; cases hc : (l[i].f0.toList == name.toList)
  ·have hne : ¬ l[i].f0.toList = name.toList := by intro e; rw [e] at hc; simp at hc
   have h2 := ih (i + 1) (by omega); refine Ev.step (fun k => ?_) h2; simp only [quillworkref03_Find.l0, if_pos c1, if_pos c2, rd47_of l i hlt]; rw [if_neg hne, hw]
  ·have he : l[i].f0.toList = name.toList := by simpa using hc
   refine Ev.step (f := fun _ => some (i : Int)) (fun k => ?_) (Ev.now _); simp only [quillworkref03_Find.l0, if_pos c1, if_pos c2, rd47_of l i hlt]; rw [if_pos he]
theorem refFind_ev (l : List S47) (name : ByteArray) (hl : l.length ≤ 9223372036854775807) : Ev (fun k => quillworkref03_Find.f k l name) (findA l name 0) := by
 have := find_l0 l name hl l.length 0 (by simp); simpa [quillworkref03_Find.f] using this
attribute [local go_sem] max2_int min2_int max_two min_two max_three min_three max_four min_four
mutual
def quillworkref16_normal.j0 (M : Nat) : Nat → Int → Bool → Int → List (S47) → ByteArray → List (S25) → Option (Bool)
 | 0, _, _, _, _, _, _ => none
 | k + 1, x6, x48, x221000, x221001, x221002, x221003 => if x48 = true then (some false) else (quillworkref16_normal.l0 M k x6 true 0 x221000 x221001 x221002 x221003)
def quillworkref16_normal.l0 (M : Nat) : Nat → Int → Bool → Int → Int → List (S47) → ByteArray → List (S25) → Option (Bool)
 | 0, _, _, _, _, _, _, _ => none
 | k + 1, x6, x7, x8, x221000, x221001, x221002, x221003 => if x8 < (x221002.size : Int) then (if x7 = true then (if 0 ≤ x8 then ((quillworkref14_Blank.f (bt x221002 x8)).bind fun t224 => (quillworkref16_normal.l0 M k x6 t224 (wrap64 (x8 + 1)) x221000 x221001 x221002 x221003)) else (none)) else (quillworkref16_normal.l0 M k x6 false (wrap64 (x8 + 1)) x221000 x221001 x221002 x221003)) else (if x7 = true then ((quillworkref02_Class.f k x6).bind fun t225 => (some (t225 != 2))) else (some true))
def quillworkref16_normal.j2 (M : Nat) : Nat → List Int → Int → Bool → Int → List (S47) → ByteArray → List (S25) → Option (Bool)
 | 0, _, _, _, _, _, _, _ => none
 | k + 1, x1, x5, x93, x221000, x221001, x221002, x221003 => if x93 = true then (some false) else (if x5 = 2 then (quillworkref16_normal.j3 M k x1 true x221000 x221001 x221002 x221003) else (quillworkref16_normal.j3 M k x1 (x5 == 3) x221000 x221001 x221002 x221003))
def quillworkref16_normal.j3 (M : Nat) : Nat → List Int → Bool → Int → List (S47) → ByteArray → List (S25) → Option (Bool)
 | 0, _, _, _, _, _, _ => none
 | k + 1, x1, x99, x221000, x221001, x221002, x221003 => if x99 = true then (quillworkref16_normal.l1 M k x1 (wrap64 ((x1.length : Int) - 1)) x221000 x221001 x221002 x221003) else (quillworkref16_normal.j6 M k x1 x221000 x221001 x221002 x221003)
def quillworkref16_normal.j6 (M : Nat) : Nat → List Int → Int → List (S47) → ByteArray → List (S25) → Option (Bool)
 | 0, _, _, _, _, _ => none
 | k + 1, x1, x221000, x221001, x221002, x221003 => if x221000 = 9 then (quillworkref16_normal.l2 M k x1 (wrap64 ((x1.length : Int) - 1)) x221000 x221001 x221002 x221003) else ((some (([] : List Int) : List Int)).bind fun y248 => (if y248.length + x1.length < 17592186044416 then ((some (y248 ++ x1 : List Int)).bind fun y251 => ((some (([x221000] : List Int) : List Int)).bind fun y254 => (if y251.length + y254.length < 17592186044416 then ((quillworkref16_kids_at M k x221000 x221001 x221002 x221003 (y251 ++ y254)).bind fun t260 => (some t260)) else (none)))) else (none)))
def quillworkref16_normal.l2 (M : Nat) : Nat → List Int → Int → Int → List (S47) → ByteArray → List (S25) → Option (Bool)
 | 0, _, _, _, _, _, _ => none
 | k + 1, x1, x10, x221000, x221001, x221002, x221003 => if x10 > 0 then (if 0 ≤ x10 then (if x10 < (x1.length : Int) then (if (rd x1 x10) = 7 then (quillworkref16_normal.j8 M k x1 x10 false x221000 x221001 x221002 x221003) else (quillworkref16_normal.j8 M k x1 x10 ((rd x1 x10) != 8) x221000 x221001 x221002 x221003)) else (none)) else (none)) else (quillworkref16_normal.j8 M k x1 x10 false x221000 x221001 x221002 x221003)
def quillworkref16_normal.j8 (M : Nat) : Nat → List Int → Int → Bool → Int → List (S47) → ByteArray → List (S25) → Option (Bool)
 | 0, _, _, _, _, _, _, _ => none
 | k + 1, x1, x10, x153, x221000, x221001, x221002, x221003 => if x153 = true then (if 0 ≤ x10 then (if x10 < (x1.length : Int) then (if (rd x1 x10) = 9 then (some false) else (quillworkref16_normal.l2 M k x1 (wrap64 (x10 - 1)) x221000 x221001 x221002 x221003)) else (none)) else (none)) else ((some (([] : List Int) : List Int)).bind fun y235 => (if y235.length + x1.length < 17592186044416 then ((some (y235 ++ x1 : List Int)).bind fun y238 => ((some (([x221000] : List Int) : List Int)).bind fun y241 => (if y238.length + y241.length < 17592186044416 then ((quillworkref16_kids_at M k x221000 x221001 x221002 x221003 (y238 ++ y241)).bind fun t247 => (some t247)) else (none)))) else (none)))
def quillworkref16_normal.l1 (M : Nat) : Nat → List Int → Int → Int → List (S47) → ByteArray → List (S25) → Option (Bool)
 | 0, _, _, _, _, _, _ => none
 | k + 1, x1, x9, x221000, x221001, x221002, x221003 => if x9 > 0 then (if 0 ≤ x9 then (if x9 < (x1.length : Int) then (if (rd x1 x9) ≥ 2 then (quillworkref16_normal.j5 M k x1 x9 (decide ((rd x1 x9) ≤ 5)) x221000 x221001 x221002 x221003) else (quillworkref16_normal.j5 M k x1 x9 false x221000 x221001 x221002 x221003)) else (none)) else (none)) else (quillworkref16_normal.j6 M k x1 x221000 x221001 x221002 x221003)
def quillworkref16_normal.j5 (M : Nat) : Nat → List Int → Int → Bool → Int → List (S47) → ByteArray → List (S25) → Option (Bool)
 | 0, _, _, _, _, _, _, _ => none
 | k + 1, x1, x9, x118, x221000, x221001, x221002, x221003 => if x118 = true then (some false) else (if 0 ≤ x9 then (if x9 < (x1.length : Int) then ((quillworkref02_Class.f k (rd x1 x9)).bind fun t230 => (if t230 = 2 then (quillworkref16_normal.j6 M k x1 x221000 x221001 x221002 x221003) else (if (rd x1 x9) = 9 then (quillworkref16_normal.j6 M k x1 x221000 x221001 x221002 x221003) else (quillworkref16_normal.l1 M k x1 (wrap64 (x9 - 1)) x221000 x221001 x221002 x221003)))) else (none)) else (none))
end
def quillworkref16_normal.f (M : Nat) (k : Nat) (a0_0 : Int) (l0_1 : List (S47)) (a0_2 : ByteArray) (l0_3 : List (S25)) (l1 : List Int) : Option (Bool) := if (l1.length : Int) > 40 then (some false) else ((quillworkref02_Class.f k a0_0).bind fun t221 => (if 0 ≤ (wrap64 ((l1.length : Int) - 1)) then (if (wrap64 ((l1.length : Int) - 1)) < (l1.length : Int) then (if a0_0 = 0 then (if (l0_1.length : Int) > 0 then (quillworkref16_normal.j0 M k (rd l1 (wrap64 ((l1.length : Int) - 1))) true a0_0 l0_1 a0_2 l0_3) else (if (l0_3.length : Int) > 0 then (quillworkref16_normal.j0 M k (rd l1 (wrap64 ((l1.length : Int) - 1))) true a0_0 l0_1 a0_2 l0_3) else (if a0_2.toList = ([] : List UInt8) then (quillworkref16_normal.j0 M k (rd l1 (wrap64 ((l1.length : Int) - 1))) true a0_0 l0_1 a0_2 l0_3) else ((quillworkref08_Anew.f a0_2).bind fun t223 => (quillworkref16_normal.j0 M k (rd l1 (wrap64 ((l1.length : Int) - 1))) (t223.toList != a0_2.toList) a0_0 l0_1 a0_2 l0_3))))) else (if t221 = 0 then (quillworkref16_normal.j2 M k l1 t221 true a0_0 l0_1 a0_2 l0_3) else (if a0_2.toList = ([] : List UInt8) then ((quillworkref03_May.f k l0_1).bind fun t226 => (if t226 = true then (if t221 = 5 then (quillworkref16_normal.j2 M k l1 t221 (decide ((l0_3.length : Int) > 0)) a0_0 l0_1 a0_2 l0_3) else (quillworkref16_normal.j2 M k l1 t221 false a0_0 l0_1 a0_2 l0_3)) else (quillworkref16_normal.j2 M k l1 t221 true a0_0 l0_1 a0_2 l0_3))) else (quillworkref16_normal.j2 M k l1 t221 true a0_0 l0_1 a0_2 l0_3)))) else (none)) else (none)))
theorem quillworkref16_normal.mono_l (M : Nat) : ∀ k, (∀ y0 y1 y2 y3 y4 y5, LeO (quillworkref16_normal.j0 M k y0 y1 y2 y3 y4 y5) (quillworkref16_normal.j0 M (k + 1) y0 y1 y2 y3 y4 y5)) ∧ (∀ y0 y1 y2 y3 y4 y5 y6, LeO (quillworkref16_normal.l0 M k y0 y1 y2 y3 y4 y5 y6) (quillworkref16_normal.l0 M (k + 1) y0 y1 y2 y3 y4 y5 y6)) ∧ (∀ y0 y1 y2 y3 y4 y5 y6, LeO (quillworkref16_normal.j2 M k y0 y1 y2 y3 y4 y5 y6) (quillworkref16_normal.j2 M (k + 1) y0 y1 y2 y3 y4 y5 y6)) ∧ (∀ y0 y1 y2 y3 y4 y5, LeO (quillworkref16_normal.j3 M k y0 y1 y2 y3 y4 y5) (quillworkref16_normal.j3 M (k + 1) y0 y1 y2 y3 y4 y5)) ∧ (∀ y0 y1 y2 y3 y4, LeO (quillworkref16_normal.j6 M k y0 y1 y2 y3 y4) (quillworkref16_normal.j6 M (k + 1) y0 y1 y2 y3 y4)) ∧ (∀ y0 y1 y2 y3 y4 y5, LeO (quillworkref16_normal.l2 M k y0 y1 y2 y3 y4 y5) (quillworkref16_normal.l2 M (k + 1) y0 y1 y2 y3 y4 y5)) ∧ (∀ y0 y1 y2 y3 y4 y5 y6, LeO (quillworkref16_normal.j8 M k y0 y1 y2 y3 y4 y5 y6) (quillworkref16_normal.j8 M (k + 1) y0 y1 y2 y3 y4 y5 y6)) ∧ (∀ y0 y1 y2 y3 y4 y5, LeO (quillworkref16_normal.l1 M k y0 y1 y2 y3 y4 y5) (quillworkref16_normal.l1 M (k + 1) y0 y1 y2 y3 y4 y5)) ∧ (∀ y0 y1 y2 y3 y4 y5 y6, LeO (quillworkref16_normal.j5 M k y0 y1 y2 y3 y4 y5 y6) (quillworkref16_normal.j5 M (k + 1) y0 y1 y2 y3 y4 y5 y6))
 | 0 => ⟨fun _ _ _ _ _ _ r h => by simp [quillworkref16_normal.j0] at h, fun _ _ _ _ _ _ _ r h => by simp [quillworkref16_normal.l0] at h, fun _ _ _ _ _ _ _ r h => by simp [quillworkref16_normal.j2] at h, fun _ _ _ _ _ _ r h => by simp [quillworkref16_normal.j3] at h, fun _ _ _ _ _ r h => by simp [quillworkref16_normal.j6] at h, fun _ _ _ _ _ _ r h => by simp [quillworkref16_normal.l2] at h, fun _ _ _ _ _ _ _ r h => by simp [quillworkref16_normal.j8] at h, fun _ _ _ _ _ _ r h => by simp [quillworkref16_normal.l1] at h, fun _ _ _ _ _ _ _ r h => by simp [quillworkref16_normal.j5] at h⟩
 | k + 1 => by
  obtain ⟨ih0, ih1, ih2, ih3, ih4, ih5, ih6, ih7, ih8⟩ := quillworkref16_normal.mono_l M k; refine ⟨?_, ?_, ?_, ?_, ?_, ?_, ?_, ?_, ?_⟩
  ·intro y0 y1 y2 y3 y4 y5; unfold quillworkref16_normal.j0
   repeat' first
   | (with_reducible exact ih0 _ _ _ _ _ _)
   | (with_reducible exact ih1 _ _ _ _ _ _ _)
   | (with_reducible exact ih2 _ _ _ _ _ _ _)
   | (with_reducible exact ih3 _ _ _ _ _ _)
   | (with_reducible exact ih4 _ _ _ _ _)
   | (with_reducible exact ih5 _ _ _ _ _ _)
   | (with_reducible exact ih6 _ _ _ _ _ _ _)
   | (with_reducible exact ih7 _ _ _ _ _ _)
   | (with_reducible exact ih8 _ _ _ _ _ _ _)
   | (with_reducible exact quillworkref02_Class.mono _ _)
   | (with_reducible exact quillworkref03_May.mono _ _)
   | (with_reducible exact quillworkref16_kids_at.mono M _ _ _ _ _ _)
   | (with_reducible exact LeO.refl _)
   | (with_reducible exact LeO.none _)
   | (with_reducible refine LeO.ite ?_ ?_)
   | (with_reducible refine LeO.bind ?_ (fun _ => ?_))
   | exact ih0 _ _ _ _ _ _
   | exact ih1 _ _ _ _ _ _ _
   | exact ih2 _ _ _ _ _ _ _
   | exact ih3 _ _ _ _ _ _
   | exact ih4 _ _ _ _ _
   | exact ih5 _ _ _ _ _ _
   | exact ih6 _ _ _ _ _ _ _
   | exact ih7 _ _ _ _ _ _
   | exact ih8 _ _ _ _ _ _ _
   | exact quillworkref02_Class.mono _ _
   | exact quillworkref03_May.mono _ _
   | exact quillworkref16_kids_at.mono M _ _ _ _ _ _
   | exact LeO.none _
   | refine LeO.ite ?_ ?_
   | refine LeO.bind ?_ (fun _ => ?_)
  ·intro y0 y1 y2 y3 y4 y5 y6; unfold quillworkref16_normal.l0
   repeat' first
   | (with_reducible exact ih0 _ _ _ _ _ _)
   | (with_reducible exact ih1 _ _ _ _ _ _ _)
   | (with_reducible exact ih2 _ _ _ _ _ _ _)
   | (with_reducible exact ih3 _ _ _ _ _ _)
   | (with_reducible exact ih4 _ _ _ _ _)
   | (with_reducible exact ih5 _ _ _ _ _ _)
   | (with_reducible exact ih6 _ _ _ _ _ _ _)
   | (with_reducible exact ih7 _ _ _ _ _ _)
   | (with_reducible exact ih8 _ _ _ _ _ _ _)
   | (with_reducible exact quillworkref02_Class.mono _ _)
   | (with_reducible exact quillworkref03_May.mono _ _)
   | (with_reducible exact quillworkref16_kids_at.mono M _ _ _ _ _ _)
   | (with_reducible exact LeO.refl _)
   | (with_reducible exact LeO.none _)
   | (with_reducible refine LeO.ite ?_ ?_)
   | (with_reducible refine LeO.bind ?_ (fun _ => ?_))
   | exact ih0 _ _ _ _ _ _
   | exact ih1 _ _ _ _ _ _ _
   | exact ih2 _ _ _ _ _ _ _
   | exact ih3 _ _ _ _ _ _
   | exact ih4 _ _ _ _ _
   | exact ih5 _ _ _ _ _ _
   | exact ih6 _ _ _ _ _ _ _
   | exact ih7 _ _ _ _ _ _
   | exact ih8 _ _ _ _ _ _ _
   | exact quillworkref02_Class.mono _ _
   | exact quillworkref03_May.mono _ _
   | exact quillworkref16_kids_at.mono M _ _ _ _ _ _
   | exact LeO.none _
   | refine LeO.ite ?_ ?_
   | refine LeO.bind ?_ (fun _ => ?_)
  ·intro y0 y1 y2 y3 y4 y5 y6; unfold quillworkref16_normal.j2
   repeat' first
   | (with_reducible exact ih0 _ _ _ _ _ _)
   | (with_reducible exact ih1 _ _ _ _ _ _ _)
   | (with_reducible exact ih2 _ _ _ _ _ _ _)
   | (with_reducible exact ih3 _ _ _ _ _ _)
   | (with_reducible exact ih4 _ _ _ _ _)
   | (with_reducible exact ih5 _ _ _ _ _ _)
   | (with_reducible exact ih6 _ _ _ _ _ _ _)
   | (with_reducible exact ih7 _ _ _ _ _ _)
   | (with_reducible exact ih8 _ _ _ _ _ _ _)
   | (with_reducible exact quillworkref02_Class.mono _ _)
   | (with_reducible exact quillworkref03_May.mono _ _)
   | (with_reducible exact quillworkref16_kids_at.mono M _ _ _ _ _ _)
   | (with_reducible exact LeO.refl _)
   | (with_reducible exact LeO.none _)
   | (with_reducible refine LeO.ite ?_ ?_)
   | (with_reducible refine LeO.bind ?_ (fun _ => ?_))
   | exact ih0 _ _ _ _ _ _
   | exact ih1 _ _ _ _ _ _ _
   | exact ih2 _ _ _ _ _ _ _
   | exact ih3 _ _ _ _ _ _
   | exact ih4 _ _ _ _ _
   | exact ih5 _ _ _ _ _ _
   | exact ih6 _ _ _ _ _ _ _
   | exact ih7 _ _ _ _ _ _
   | exact ih8 _ _ _ _ _ _ _
   | exact quillworkref02_Class.mono _ _
   | exact quillworkref03_May.mono _ _
   | exact quillworkref16_kids_at.mono M _ _ _ _ _ _
   | exact LeO.none _
   | refine LeO.ite ?_ ?_
   | refine LeO.bind ?_ (fun _ => ?_)
  ·intro y0 y1 y2 y3 y4 y5; unfold quillworkref16_normal.j3
   repeat' first
   | (with_reducible exact ih0 _ _ _ _ _ _)
   | (with_reducible exact ih1 _ _ _ _ _ _ _)
   | (with_reducible exact ih2 _ _ _ _ _ _ _)
   | (with_reducible exact ih3 _ _ _ _ _ _)
   | (with_reducible exact ih4 _ _ _ _ _)
   | (with_reducible exact ih5 _ _ _ _ _ _)
   | (with_reducible exact ih6 _ _ _ _ _ _ _)
   | (with_reducible exact ih7 _ _ _ _ _ _)
   | (with_reducible exact ih8 _ _ _ _ _ _ _)
   | (with_reducible exact quillworkref02_Class.mono _ _)
   | (with_reducible exact quillworkref03_May.mono _ _)
   | (with_reducible exact quillworkref16_kids_at.mono M _ _ _ _ _ _)
   | (with_reducible exact LeO.refl _)
   | (with_reducible exact LeO.none _)
   | (with_reducible refine LeO.ite ?_ ?_)
   | (with_reducible refine LeO.bind ?_ (fun _ => ?_))
   | exact ih0 _ _ _ _ _ _
   | exact ih1 _ _ _ _ _ _ _
   | exact ih2 _ _ _ _ _ _ _
   | exact ih3 _ _ _ _ _ _
   | exact ih4 _ _ _ _ _
   | exact ih5 _ _ _ _ _ _
   | exact ih6 _ _ _ _ _ _ _
   | exact ih7 _ _ _ _ _ _
   | exact ih8 _ _ _ _ _ _ _
   | exact quillworkref02_Class.mono _ _
   | exact quillworkref03_May.mono _ _
   | exact quillworkref16_kids_at.mono M _ _ _ _ _ _
   | exact LeO.none _
   | refine LeO.ite ?_ ?_
   | refine LeO.bind ?_ (fun _ => ?_)
  ·intro y0 y1 y2 y3 y4; unfold quillworkref16_normal.j6
   repeat' first
   | (with_reducible exact ih0 _ _ _ _ _ _)
   | (with_reducible exact ih1 _ _ _ _ _ _ _)
   | (with_reducible exact ih2 _ _ _ _ _ _ _)
   | (with_reducible exact ih3 _ _ _ _ _ _)
   | (with_reducible exact ih4 _ _ _ _ _)
   | (with_reducible exact ih5 _ _ _ _ _ _)
   | (with_reducible exact ih6 _ _ _ _ _ _ _)
   | (with_reducible exact ih7 _ _ _ _ _ _)
   | (with_reducible exact ih8 _ _ _ _ _ _ _)
   | (with_reducible exact quillworkref02_Class.mono _ _)
   | (with_reducible exact quillworkref03_May.mono _ _)
   | (with_reducible exact quillworkref16_kids_at.mono M _ _ _ _ _ _)
   | (with_reducible exact LeO.refl _)
   | (with_reducible exact LeO.none _)
   | (with_reducible refine LeO.ite ?_ ?_)
   | (with_reducible refine LeO.bind ?_ (fun _ => ?_))
   | exact ih0 _ _ _ _ _ _
   | exact ih1 _ _ _ _ _ _ _
   | exact ih2 _ _ _ _ _ _ _
   | exact ih3 _ _ _ _ _ _
   | exact ih4 _ _ _ _ _
   | exact ih5 _ _ _ _ _ _
   | exact ih6 _ _ _ _ _ _ _
   | exact ih7 _ _ _ _ _ _
   | exact ih8 _ _ _ _ _ _ _
   | exact quillworkref02_Class.mono _ _
   | exact quillworkref03_May.mono _ _
   | exact quillworkref16_kids_at.mono M _ _ _ _ _ _
   | exact LeO.none _
   | refine LeO.ite ?_ ?_
   | refine LeO.bind ?_ (fun _ => ?_)
  ·intro y0 y1 y2 y3 y4 y5; unfold quillworkref16_normal.l2
   repeat' first
   | (with_reducible exact ih0 _ _ _ _ _ _)
   | (with_reducible exact ih1 _ _ _ _ _ _ _)
   | (with_reducible exact ih2 _ _ _ _ _ _ _)
   | (with_reducible exact ih3 _ _ _ _ _ _)
   | (with_reducible exact ih4 _ _ _ _ _)
   | (with_reducible exact ih5 _ _ _ _ _ _)
   | (with_reducible exact ih6 _ _ _ _ _ _ _)
   | (with_reducible exact ih7 _ _ _ _ _ _)
   | (with_reducible exact ih8 _ _ _ _ _ _ _)
   | (with_reducible exact quillworkref02_Class.mono _ _)
   | (with_reducible exact quillworkref03_May.mono _ _)
   | (with_reducible exact quillworkref16_kids_at.mono M _ _ _ _ _ _)
   | (with_reducible exact LeO.refl _)
   | (with_reducible exact LeO.none _)
   | (with_reducible refine LeO.ite ?_ ?_)
   | (with_reducible refine LeO.bind ?_ (fun _ => ?_))
   | exact ih0 _ _ _ _ _ _
   | exact ih1 _ _ _ _ _ _ _
   | exact ih2 _ _ _ _ _ _ _
   | exact ih3 _ _ _ _ _ _
   | exact ih4 _ _ _ _ _
   | exact ih5 _ _ _ _ _ _
   | exact ih6 _ _ _ _ _ _ _
   | exact ih7 _ _ _ _ _ _
   | exact ih8 _ _ _ _ _ _ _
   | exact quillworkref02_Class.mono _ _
   | exact quillworkref03_May.mono _ _
   | exact quillworkref16_kids_at.mono M _ _ _ _ _ _
   | exact LeO.none _
   | refine LeO.ite ?_ ?_
   | refine LeO.bind ?_ (fun _ => ?_)
  ·intro y0 y1 y2 y3 y4 y5 y6; unfold quillworkref16_normal.j8
   repeat' first
   | (with_reducible exact ih0 _ _ _ _ _ _)
   | (with_reducible exact ih1 _ _ _ _ _ _ _)
   | (with_reducible exact ih2 _ _ _ _ _ _ _)
   | (with_reducible exact ih3 _ _ _ _ _ _)
   | (with_reducible exact ih4 _ _ _ _ _)
   | (with_reducible exact ih5 _ _ _ _ _ _)
   | (with_reducible exact ih6 _ _ _ _ _ _ _)
   | (with_reducible exact ih7 _ _ _ _ _ _)
   | (with_reducible exact ih8 _ _ _ _ _ _ _)
   | (with_reducible exact quillworkref02_Class.mono _ _)
   | (with_reducible exact quillworkref03_May.mono _ _)
   | (with_reducible exact quillworkref16_kids_at.mono M _ _ _ _ _ _)
   | (with_reducible exact LeO.refl _)
   | (with_reducible exact LeO.none _)
   | (with_reducible refine LeO.ite ?_ ?_)
   | (with_reducible refine LeO.bind ?_ (fun _ => ?_))
   | exact ih0 _ _ _ _ _ _
   | exact ih1 _ _ _ _ _ _ _
   | exact ih2 _ _ _ _ _ _ _
   | exact ih3 _ _ _ _ _ _
   | exact ih4 _ _ _ _ _
   | exact ih5 _ _ _ _ _ _
   | exact ih6 _ _ _ _ _ _ _
   | exact ih7 _ _ _ _ _ _
   | exact ih8 _ _ _ _ _ _ _
   | exact quillworkref02_Class.mono _ _
   | exact quillworkref03_May.mono _ _
   | exact quillworkref16_kids_at.mono M _ _ _ _ _ _
   | exact LeO.none _
   | refine LeO.ite ?_ ?_
   | refine LeO.bind ?_ (fun _ => ?_)
  ·intro y0 y1 y2 y3 y4 y5; unfold quillworkref16_normal.l1
   repeat' first
   | (with_reducible exact ih0 _ _ _ _ _ _)
   | (with_reducible exact ih1 _ _ _ _ _ _ _)
   | (with_reducible exact ih2 _ _ _ _ _ _ _)
   | (with_reducible exact ih3 _ _ _ _ _ _)
   | (with_reducible exact ih4 _ _ _ _ _)
   | (with_reducible exact ih5 _ _ _ _ _ _)
   | (with_reducible exact ih6 _ _ _ _ _ _ _)
   | (with_reducible exact ih7 _ _ _ _ _ _)
   | (with_reducible exact ih8 _ _ _ _ _ _ _)
   | (with_reducible exact quillworkref02_Class.mono _ _)
   | (with_reducible exact quillworkref03_May.mono _ _)
   | (with_reducible exact quillworkref16_kids_at.mono M _ _ _ _ _ _)
   | (with_reducible exact LeO.refl _)
   | (with_reducible exact LeO.none _)
   | (with_reducible refine LeO.ite ?_ ?_)
   | (with_reducible refine LeO.bind ?_ (fun _ => ?_))
   | exact ih0 _ _ _ _ _ _
   | exact ih1 _ _ _ _ _ _ _
   | exact ih2 _ _ _ _ _ _ _
   | exact ih3 _ _ _ _ _ _
   | exact ih4 _ _ _ _ _
   | exact ih5 _ _ _ _ _ _
   | exact ih6 _ _ _ _ _ _ _
   | exact ih7 _ _ _ _ _ _
   | exact ih8 _ _ _ _ _ _ _
   | exact quillworkref02_Class.mono _ _
   | exact quillworkref03_May.mono _ _
   | exact quillworkref16_kids_at.mono M _ _ _ _ _ _
   | exact LeO.none _
   | refine LeO.ite ?_ ?_
   | refine LeO.bind ?_ (fun _ => ?_)
  ·intro y0 y1 y2 y3 y4 y5 y6; unfold quillworkref16_normal.j5
   repeat' first
   | (with_reducible exact ih0 _ _ _ _ _ _)
   | (with_reducible exact ih1 _ _ _ _ _ _ _)
   | (with_reducible exact ih2 _ _ _ _ _ _ _)
   | (with_reducible exact ih3 _ _ _ _ _ _)
   | (with_reducible exact ih4 _ _ _ _ _)
   | (with_reducible exact ih5 _ _ _ _ _ _)
   | (with_reducible exact ih6 _ _ _ _ _ _ _)
   | (with_reducible exact ih7 _ _ _ _ _ _)
   | (with_reducible exact ih8 _ _ _ _ _ _ _)
   | (with_reducible exact quillworkref02_Class.mono _ _)
   | (with_reducible exact quillworkref03_May.mono _ _)
   | (with_reducible exact quillworkref16_kids_at.mono M _ _ _ _ _ _)
   | (with_reducible exact LeO.refl _)
   | (with_reducible exact LeO.none _)
   | (with_reducible refine LeO.ite ?_ ?_)
   | (with_reducible refine LeO.bind ?_ (fun _ => ?_))
   | exact ih0 _ _ _ _ _ _
   | exact ih1 _ _ _ _ _ _ _
   | exact ih2 _ _ _ _ _ _ _
   | exact ih3 _ _ _ _ _ _
   | exact ih4 _ _ _ _ _
   | exact ih5 _ _ _ _ _ _
   | exact ih6 _ _ _ _ _ _ _
   | exact ih7 _ _ _ _ _ _
   | exact ih8 _ _ _ _ _ _ _
   | exact quillworkref02_Class.mono _ _
   | exact quillworkref03_May.mono _ _
   | exact quillworkref16_kids_at.mono M _ _ _ _ _ _
   | exact LeO.none _
   | refine LeO.ite ?_ ?_
   | refine LeO.bind ?_ (fun _ => ?_)
theorem quillworkref16_normal.mono (M : Nat) : ∀ a0 a1 a2 a3 a4 k, LeO (quillworkref16_normal.f M k a0 a1 a2 a3 a4) (quillworkref16_normal.f M (k + 1) a0 a1 a2 a3 a4) := by
 intro a0 a1 a2 a3 a4 k; obtain ⟨ih0, ih1, ih2, ih3, ih4, ih5, ih6, ih7, ih8⟩ := quillworkref16_normal.mono_l M k; unfold quillworkref16_normal.f
 repeat' first
  | (with_reducible exact ih0 _ _ _ _ _ _)
  | (with_reducible exact ih1 _ _ _ _ _ _ _)
  | (with_reducible exact ih2 _ _ _ _ _ _ _)
  | (with_reducible exact ih3 _ _ _ _ _ _)
  | (with_reducible exact ih4 _ _ _ _ _)
  | (with_reducible exact ih5 _ _ _ _ _ _)
  | (with_reducible exact ih6 _ _ _ _ _ _ _)
  | (with_reducible exact ih7 _ _ _ _ _ _)
  | (with_reducible exact ih8 _ _ _ _ _ _ _)
  | (with_reducible exact quillworkref02_Class.mono _ _)
  | (with_reducible exact quillworkref03_May.mono _ _)
  | (with_reducible exact quillworkref16_kids_at.mono M _ _ _ _ _ _)
  | (with_reducible exact LeO.refl _)
  | (with_reducible exact LeO.none _)
  | (with_reducible refine LeO.ite ?_ ?_)
  | (with_reducible refine LeO.bind ?_ (fun _ => ?_))
  | exact ih0 _ _ _ _ _ _
  | exact ih1 _ _ _ _ _ _ _
  | exact ih2 _ _ _ _ _ _ _
  | exact ih3 _ _ _ _ _ _
  | exact ih4 _ _ _ _ _
  | exact ih5 _ _ _ _ _ _
  | exact ih6 _ _ _ _ _ _ _
  | exact ih7 _ _ _ _ _ _
  | exact ih8 _ _ _ _ _ _ _
  | exact quillworkref02_Class.mono _ _
  | exact quillworkref03_May.mono _ _
  | exact quillworkref16_kids_at.mono M _ _ _ _ _ _
  | exact LeO.none _
  | refine LeO.ite ?_ ?_
  | refine LeO.bind ?_ (fun _ => ?_)
def quillworkref16_normal.T6 : Bool × List (List Nat × List Nat) := (true, [([], []), ([0], [0]), ([1], [1]), ([2], [2]), ([3], [3]), ([4], [4]), ([5, 4], [4, 5]), ([6, 4], [4, 6]), ([7, 4], [4, 7]), ([4, 8], [4, 8]), ([9, 4], [9]), ([10], [10]), ([11, 10], [10, 11]), ([12, 10], [10, 12]), ([10, 13], [10, 13]), ([14, 10], [14]), ([15], [15]), ([16, 15], [15, 16]), ([17, 15, 15], [15, 17]), ([15], [15]), ([19, 15], [15, 19]), ([18, 20, 15], [15, 18, 20]), ([15, 21], [15, 21])])
def quillworkref16_normal.B6 : List Nat := [0, 1, 3, 7, 15, 31, 63, 127, 255, 511, 1023, 2047, 4095, 8191, 16383, 32767, 65535, 131071, 262143, 65535, 589823, 2097151, 4194303]
theorem quillworkref16_normal.tab6 : rtab .any (opsOf Tryd.f34 6) = quillworkref16_normal.T6 := by kernel_rfl
theorem quillworkref16_normal.bits6 : waitsOk quillworkref16_normal.T6.2 quillworkref16_normal.B6 = true := by kernel_rfl
def quillworkref16_normal.T29 : Bool × List (List Nat × List Nat) := (true, [([], []), ([], []), ([], []), ([1, 2], [1, 2]), ([], []), ([4], [4]), ([5], [5]), ([3, 6, 3], [3, 6]), ([0, 7, 7], [0, 7]), ([8, 8, 0, 1, 2, 3, 4, 5, 6, 7, 8], [8])])
def quillworkref16_normal.B29 : List Nat := [0, 0, 0, 6, 0, 16, 48, 126, 255, 511]
theorem quillworkref16_normal.tab29 : rtab .any (opsOf Tryd.f34 29) = quillworkref16_normal.T29 := by kernel_rfl
theorem quillworkref16_normal.bits29 : waitsOk quillworkref16_normal.T29.2 quillworkref16_normal.B29 = true := by kernel_rfl
end Go.Proofs.YtbbikcmkcgoamaaDoor.Pp
namespace Go.Proofs.YtbbikcmkcgoamaaDoor.Pp
open Go.RowKit Go.Proofs.YtbbikcmkcgoamaaDoorW.PrintWords Go.Proofs.YtbbikcmkcgoamaaDoorW.PrintLast Go.Proofs.YtbbikcmkcgoamaaDoorW.PrintMore
theorem findA_le (name : ByteArray) : ∀ (l : List S47) (i j : Nat) (a : S47), l[j]? = some a → a.f0 = name → findA l name i ≤ ((i + j : Nat) : Int) ∧ (i : Int) ≤ findA l name i
 | [], i, j, a, h, _ => by simp at h
 | b :: l, i, j, a, h, ha => by
  unfold findA; split
  ·exact ⟨by omega, by omega⟩
  ·rename_i hb
   match j, h with
   | 0, h =>
    simp at h
    subst h; subst ha; simp at hb
   | j + 1, h =>
    have := findA_le name l (i + 1) j a (by simpa using h) ha; exact ⟨by omega, by omega⟩
theorem may_l0 (l : List S47) (hl : l.length ≤ 70368744177664) (hsz : ∀ a ∈ l, a.f0.size ≤ 70368744177664 ∧ a.f1.size ≤ 70368744177664) : ∀ (n i : Nat), l.length - i = n → i ≤ l.length → Ev (fun k => quillworkref03_May.l0 k l (i : Int)) (mayFrom l (l.drop i) i) := by
 intro n; induction n with
 | zero =>
  intro i hi h2; rw [List.drop_of_length_le (by omega)]; refine Ev.step (f := fun _ => some true) (fun k => ?_) (Ev.now _); simp only [quillworkref03_May.l0]; rw [if_neg (by omega)]
 | succ n ih =>
  intro i hi h2; have hlt : i < l.length := by omega
  have c1 : (i : Int) < (l.length : Int) := by omega
  have c2 : (0 : Int) ≤ (i : Int) := by omega
  have hw : wrap64 ((i : Int) + 1) = ((i + 1 : Nat) : Int) := wrap64_of (by omega) (by omega); have hz := hsz l[i] (List.getElem_mem hlt); have hf := findA_le l[i].f0 l 0 i l[i] (List.getElem?_eq_getElem hlt) rfl; rw [List.drop_eq_getElem_cons hlt]; unfold mayFrom; refine Ev.step (fun k => ?_) (Ev.bind (refName_ev l[i].f0 (by omega)) (f := fun k t => if t = true then ((quillworkref03_Value.f k l[i].f1).bind fun t217 => (if t217 = true then ((quillworkref03_Find.f k l l[i].f0).bind fun t219 => (if t219 < (i : Int) then (some false) else (quillworkref03_May.l0 k l (wrap64 ((i : Int) + 1))))) else (some false))) else some false) ?_); ·simp only [quillworkref03_May.l0, if_pos c1, if_pos c2, rd47_of l i hlt]
  ·cases nameOk l[i].f0
   ·exact Ev.congr (fun k => rfl) (Ev.now _)
   ·rw [Bool.true_and]; refine Ev.congr (fun k => by rw [if_pos rfl]) (Ev.bind (refValue_ev l[i].f1 hz.2) (f := fun k t217 => (if t217 = true then ((quillworkref03_Find.f k l l[i].f0).bind fun t219 => (if t219 < (i : Int) then (some false) else (quillworkref03_May.l0 k l (wrap64 ((i : Int) + 1))))) else (some false))) ?_); cases valueOk l[i].f1
    ·exact Ev.congr (fun k => rfl) (Ev.now _)
    ·rw [Bool.true_and]; refine Ev.congr (fun k => by rw [if_pos rfl]) (Ev.bind (refFind_ev l l[i].f0 (by omega)) (f := fun k t219 => (if t219 < (i : Int) then (some false) else (quillworkref03_May.l0 k l (wrap64 ((i : Int) + 1))))) ?_); by_cases he : findA l l[i].f0 0 = (i : Int)
     ·rw [decide_eq_true he, Bool.true_and]; exact Ev.congr (fun k => by rw [if_neg (by omega), hw]) (ih (i + 1) (by omega) (by omega))
     ·rw [decide_eq_false he, Bool.false_and]; exact Ev.congr (fun k => by rw [if_pos (by omega)]) (Ev.now _)
theorem refMayA_ev (l : List S47) (hl : l.length ≤ 70368744177664) (hsz : ∀ a ∈ l, a.f0.size ≤ 70368744177664 ∧ a.f1.size ≤ 70368744177664) : Ev (fun k => quillworkref03_May.f k l) (mayOk l) := by
 have := may_l0 l hl hsz l.length 0 (by simp) (Nat.zero_le _); simpa [quillworkref03_May.f, mayOk] using this
section
variable (M : Nat) (t : Int) (l : List S47) (tx : ByteArray) (ks : List S25)
theorem text_l0 (htx : tx.size ≤ 9223372036854775807) (inn : Int) : ∀ (n i : Nat) (b : Bool), tx.size - i = n → i ≤ tx.size → Ev (fun k => quillworkref16_normal.l0 M k inn b (i : Int) t l tx ks) (!((b && (tx.data.toList.drop i).all blankB) && (tclass inn == 2))) := by
 intro n; induction n with
 | zero =>
  intro i b hi h2; rw [List.drop_of_length_le (by rw [bytes_len]; omega)]; have c1 : ¬ (i : Int) < (tx.size : Int) := by omega
  cases b
  ·refine Ev.step (f := fun _ => some true) (fun k => ?_) (Ev.now _); simp only [quillworkref16_normal.l0, if_neg c1]; rfl
  ·refine Ev.step (fun k => ?_) (Ev.bind (refClass_ev inn) (f := fun k t225 => (some (t225 != 2))) (Ev.congr (fun k => ?_) (Ev.now _))); ·simp only [quillworkref16_normal.l0, if_neg c1, if_true]
   ·simp [bne]
 | succ n ih =>
  intro i b hi h2; have hlt : i < tx.size := by omega
  have c1 : (i : Int) < (tx.size : Int) := by omega
  have c2 : (0 : Int) ≤ (i : Int) := by omega
  have hw : wrap64 ((i : Int) + 1) = ((i + 1 : Nat) : Int) := wrap64_of (by omega) (by omega); have hll : i < tx.data.toList.length := by rw [bytes_len]; exact hlt
  obtain ⟨_, hbt, _⟩ := bt_drop tx i tx.data.toList[i] (tx.data.toList.drop (i + 1)) (List.drop_eq_getElem_cons hll); rw [List.drop_eq_getElem_cons hll, List.all_cons]; generalize tx.data.toList[i] = b0 at *; cases b
  ·refine Ev.step (fun k => ?_) (ih (i + 1) false (by omega) (by omega)); simp only [quillworkref16_normal.l0, if_pos c1, hw]; rfl
  ·have hbl : quillworkref14_Blank.f (b0.toNat : Int) = some (blankB b0) := by
    unfold quillworkref14_Blank.f blankB
    have e : ∀ z : Nat, z < 256 → (b0 == z.toUInt8) = decide ((b0.toNat : Int) = (z : Int)) := fun z hz => by
     rw [Bool.eq_iff_iff, beq_iff_eq, decide_eq_true_eq]; constructor
     ·rintro rfl; simp; omega
     ·intro h; apply UInt8.toNat_inj.1; simp; omega
    have e9 := e 9 (by decide); have e10 := e 10 (by decide); have e12 := e 12 (by decide); have e13 := e 13 (by decide); have e32 := e 32 (by decide); simp only [show (9 : Nat).toUInt8 = 9 from rfl, show (10 : Nat).toUInt8 = 10 from rfl, show (12 : Nat).toUInt8 = 12 from rfl, show (13 : Nat).toUInt8 = 13 from rfl, show (32 : Nat).toUInt8 = 32 from rfl] at e9 e10 e12 e13 e32; rw [e9, e10, e12, e13, e32]; generalize (b0.toNat : Int) = z; by_cases z9 : z = 9
    ·simp [z9]
    by_cases z10 : z = 10
    ·simp [z10]
    by_cases z12 : z = 12
    ·simp [z12]
    by_cases z13 : z = 13
    ·simp [z13]
    by_cases z32 : z = 32
    ·simp [z32]
    simp [z9, z10, z12, z13, z32]
   have h3 := ih (i + 1) (blankB b0) (by omega) (by omega); rw [Bool.true_and]; refine Ev.step (fun k => ?_) h3; simp only [quillworkref16_normal.l0, if_pos c1, if_pos c2, if_true, hbt, hbl, Option.bind_some, hw]
end
end Go.Proofs.YtbbikcmkcgoamaaDoor.Pp
