/- Joined by merge.py of this session: words, walks and plain laws of this claim. -/
import Derived.Test.YtbbikcmkcgoamaaDoorPtsM8
import Derived.Test.YtbbikcmkcgoamaaDoorPtsM9
import Derived.Lib.MapLaws
import Derived.Lib.TrimUEq
import Derived.Test.YtbbikcmkcgoamaaDoorPtsM10
import Derived.Test.YtbbikcmkcgoamaaDoorPtsM13
/-
  Plain laws: characters as markup can be told apart: a word of escR at the head of a text is known from the text.
-/
namespace Go.Proofs.YtbbikcmkcgoamaaDoor.Pp
open Go.RowKit
set_option linter.unusedVariables false
set_option linter.unusedSimpArgs false

def zs (l : List UInt8) : List Int := l.map fun b => (b.toNat : Int)
theorem zs_append (l m : List UInt8) : zs (l ++ m) = zs l ++ zs m := by simp [zs]
theorem zs_inj {l m : List UInt8} (h : zs l = zs m) : l = m := by
  unfold zs at h
  refine (List.map_inj_right (fun a b hab => ?_)).1 h
  have : a.toNat = b.toNat := by omega
  exact UInt8.toNat_inj.1 this
theorem zs_rune (c : Int) : zs (Lib.encodeRune c) = Lib.encodeRuneZ c := by
  unfold zs Lib.encodeRune
  rw [List.map_map]
  have key : ∀ l : List Int, (∀ x ∈ l, 0 ≤ x ∧ x < 256) → l.map ((fun b : UInt8 => (b.toNat : Int)) ∘ fun x : Int => x.toNat.toUInt8) = l := by
    intro l
    induction l with
    | nil => intro _; rfl
    | cons a l ih =>
      intro h
      have h1 := h a (List.mem_cons_self ..)
      rw [List.map_cons, ih (fun x hx => h x (List.mem_cons_of_mem _ hx))]
      congr 1
      simp only [Function.comp]
      have : a.toNat < 256 := by omega
      have e : (a.toNat.toUInt8).toNat = a.toNat := by simp [Nat.toUInt8, UInt8.toNat_ofNat, Nat.mod_eq_of_lt this]
      omega
  exact key _ (fun x hx => Lib.encodeRuneZ_byte c x hx)
def okRune (c : Int) : Prop := (0 ≤ c ∧ c < 55296) ∨ (57343 < c ∧ c ≤ 1114111)
/-- The nine shapes of a character as markup. -/
theorem esc_shape (v : Bool) (c : Int) (h : okRune c) :
    (c = 38 ∧ zs (escR v c) = [38, 97, 109, 112, 59]) ∨ (c = 60 ∧ zs (escR v c) = [38, 108, 116, 59]) ∨ (c = 62 ∧ zs (escR v c) = [38, 103, 116, 59]) ∨ (c = 160 ∧ zs (escR v c) = [38, 110, 98, 115, 112, 59]) ∨ (c = 34 ∧ v = true ∧ zs (escR v c) = [38, 113, 117, 111, 116, 59]) ∨
    (0 ≤ c ∧ c ≤ 127 ∧ c ≠ 38 ∧ c ≠ 60 ∧ c ≠ 62 ∧ (v = true → c ≠ 34) ∧ zs (escR v c) = [c]) ∨ (128 ≤ c ∧ c ≤ 2047 ∧ c ≠ 160 ∧ zs (escR v c) = [192 + c / 64, 128 + c % 64]) ∨ (2048 ≤ c ∧ c ≤ 65535 ∧ zs (escR v c) = [224 + c / 4096, 128 + c / 64 % 64, 128 + c % 64]) ∨ (65536 ≤ c ∧ c ≤ 1114111 ∧ zs (escR v c) = [240 + c / 262144, 128 + c / 4096 % 64, 128 + c / 64 % 64, 128 + c % 64]) := by
  unfold okRune at h
  unfold escR
  by_cases a1 : c = 38
  · left; exact ⟨a1, by rw [if_pos a1]; rfl⟩
  right
  rw [if_neg a1]
  by_cases a2 : c = 60
  · left; exact ⟨a2, by rw [if_pos a2]; rfl⟩
  right
  rw [if_neg a2]
  by_cases a3 : c = 62
  · left; exact ⟨a3, by rw [if_pos a3]; rfl⟩
  right
  rw [if_neg a3]
  by_cases a4 : c = 160
  · left; exact ⟨a4, by rw [if_pos a4]; rfl⟩
  right
  rw [if_neg a4]
  by_cases a5 : c = 34 ∧ v = true
  · left; exact ⟨a5.1, a5.2, by rw [if_pos a5]; rfl⟩
  right
  rw [if_neg a5, zs_rune]
  by_cases b1 : c ≤ 127
  · left; exact ⟨by omega, b1, a1, a2, a3, fun hv e => a5 ⟨e, hv⟩, Lib.encodeRuneZ_one (by omega) b1⟩
  right
  by_cases b2 : c ≤ 2047
  · left; exact ⟨by omega, b2, a4, Lib.encodeRuneZ_two (by omega) b2⟩
  right
  by_cases b3 : c ≤ 65535
  · left; exact ⟨by omega, b3, Lib.encodeRuneZ_three (by omega)⟩
  right
  exact ⟨by omega, by omega, Lib.encodeRuneZ_four (by omega) (by omega)⟩
theorem esc_prefix (v : Bool) (c c2 : Int) (h : okRune c) (h2 : okRune c2) (X Y : List UInt8) (he : escR v c ++ X = escR v c2 ++ Y) : c = c2 ∧ X = Y := by
  have hz : zs (escR v c) ++ zs X = zs (escR v c2) ++ zs Y := by rw [← zs_append, ← zs_append, he]
  suffices hs : c = c2 ∧ zs X = zs Y from ⟨hs.1, zs_inj hs.2⟩
  rcases esc_shape v c h with ⟨r1, e1⟩ | ⟨r1, e1⟩ | ⟨r1, e1⟩ | ⟨r1, e1⟩ | ⟨r1, r0, e1⟩ | ⟨r1, r2, r3, r4, r5, r6, e1⟩ | ⟨r1, r2, r3, e1⟩ | ⟨r1, r2, e1⟩ | ⟨r1, r2, e1⟩ <;>
  rcases esc_shape v c2 h2 with ⟨s1, f1⟩ | ⟨s1, f1⟩ | ⟨s1, f1⟩ | ⟨s1, f1⟩ | ⟨s1, s0, f1⟩ | ⟨s1, s2, s3, s4, s5, s6, f1⟩ | ⟨s1, s2, s3, f1⟩ | ⟨s1, s2, f1⟩ | ⟨s1, s2, f1⟩ <;>
  · rw [e1, f1] at hz
    simp only [List.cons_append, List.nil_append, List.cons.injEq] at hz
    first
    | (exfalso; omega)
    | (refine ⟨by omega, ?_⟩; simp only [hz]; done)
    | (refine ⟨by omega, ?_⟩; exact hz.2)
    | (refine ⟨by omega, ?_⟩; exact hz.2.2)
    | (refine ⟨by omega, ?_⟩; exact hz.2.2.2)
    | (refine ⟨by omega, ?_⟩; exact hz.2.2.2.2)
/-- No character's markup begins with '<'; a value's none with a quote. -/
theorem esc_head (v : Bool) (c : Int) (h : okRune c) : ∃ (b : UInt8) (l : List UInt8), escR v c = b :: l ∧ b ≠ 60 ∧ (v = true → b ≠ 34) := by
  have key : ∀ (l : List UInt8) (z : Int) (t : List Int), zs l = z :: t → z ≠ 60 → (v = true → z ≠ 34) → ∃ (b : UInt8) (m : List UInt8), l = b :: m ∧ b ≠ 60 ∧ (v = true → b ≠ 34) := by
    intro l z t hl h60 h34
    cases l with
    | nil => simp [zs] at hl
    | cons b m =>
      simp only [zs, List.map_cons, List.cons.injEq] at hl
      refine ⟨b, m, rfl, ?_, fun hv => ?_⟩
      · rintro rfl
        exact h60 (by rw [← hl.1]; rfl)
      · rintro rfl
        exact h34 hv (by rw [← hl.1]; rfl)
  rcases esc_shape v c h with ⟨r1, e1⟩ | ⟨r1, e1⟩ | ⟨r1, e1⟩ | ⟨r1, e1⟩ | ⟨r1, r0, e1⟩ | ⟨r1, r2, r3, r4, r5, r6, e1⟩ | ⟨r1, r2, r3, e1⟩ | ⟨r1, r2, e1⟩ | ⟨r1, r2, e1⟩
  all_goals exact key _ _ _ e1 (by omega) (by first | exact fun hv => r6 hv | (intro _; omega))
/-- Behind texts of characters stands nothing, or a byte that begins no character. -/
def stops (v : Bool) (R : List UInt8) : Prop := R = [] ∨ ∃ b l, R = b :: l ∧ (b = 60 ∨ (v = true ∧ b = 34))
theorem flat_inj (v : Bool) : ∀ (l m : List Int), (∀ c ∈ l, okRune c) → (∀ c ∈ m, okRune c) → ∀ (R S : List UInt8), stops v R → stops v S → l.flatMap (escR v) ++ R = m.flatMap (escR v) ++ S → l = m ∧ R = S
  | [], [], _, _, R, S, _, _, h => ⟨rfl, h⟩
  | [], c :: m, _, hm, R, S, hR, _, h => by
    obtain ⟨b, t, e, h1, h2⟩ := esc_head v c (hm c (List.mem_cons_self ..))
    simp only [List.flatMap_nil, List.nil_append, List.flatMap_cons, e, List.cons_append] at h
    rcases hR with rfl | ⟨b2, t2, rfl, hb⟩
    · cases h
    · injection h with hb2 _
      subst hb2
      rcases hb with hb | ⟨hv, hb⟩
      · exact absurd hb h1
      · exact absurd hb (h2 hv)
  | c :: l, [], hl, _, R, S, _, hS, h => by
    obtain ⟨b, t, e, h1, h2⟩ := esc_head v c (hl c (List.mem_cons_self ..))
    simp only [List.flatMap_nil, List.nil_append, List.flatMap_cons, e, List.cons_append] at h
    rcases hS with rfl | ⟨b2, t2, rfl, hb⟩
    · cases h
    · injection h with hb2 _
      subst hb2
      rcases hb with hb | ⟨hv, hb⟩
      · exact absurd hb h1
      · exact absurd hb (h2 hv)
  | c :: l, d :: m, hl, hm, R, S, hR, hS, h => by
    rw [List.flatMap_cons, List.flatMap_cons, List.append_assoc, List.append_assoc] at h
    obtain ⟨e1, h3⟩ := esc_prefix v c d (hl c (List.mem_cons_self ..)) (hm d (List.mem_cons_self ..)) _ _ h
    obtain ⟨e2, h4⟩ := flat_inj v l m (fun x hx => hl x (List.mem_cons_of_mem _ hx)) (fun x hx => hm x (List.mem_cons_of_mem _ hx)) R S hR hS h3
    exact ⟨by rw [e1, e2], h4⟩
end Go.Proofs.YtbbikcmkcgoamaaDoor.Pp

/-
  Plain laws: a text that may be is known from its runes, so from its markup.
-/
namespace Go.Proofs.YtbbikcmkcgoamaaDoor.Pp
open Go.RowKit
set_option linter.unusedVariables false
set_option linter.unusedSimpArgs false

theorem bytes_len (s : ByteArray) : s.data.toList.length = s.size := Array.length_toList
theorem decode_ok (s : ByteArray) (pos : Nat) : okRune (Utf8.decode s pos).1 := by
  rw [Lib.decode_at]
  have k0 := (s.get! pos).toNat_lt
  have k1 := (s.get! (pos + 1)).toNat_lt
  have k2 := (s.get! (pos + 2)).toNat_lt
  have k3 := (s.get! (pos + 3)).toNat_lt
  unfold okRune
  rcases Lib.decodeN_shape (s.size - pos) (s.get! pos).toNat (s.get! (pos + 1)).toNat (s.get! (pos + 2)).toNat (s.get! (pos + 3)).toNat with ⟨c, e⟩ | ⟨c1, c2, c3, cv, e⟩ | ⟨c1, c2, c3, c4, cv, cs, e⟩ | ⟨c1, c2, c3, c4, c5, cv, cw, e⟩ | e
  all_goals (rw [e]; dsimp only; omega)
theorem runesFrom_ok (s : ByteArray) : ∀ (n i : Nat), ∀ c ∈ runesFrom s n i, okRune c
  | 0, _, c, h => by simp [runesFrom] at h
  | n + 1, i, c, h => by
    unfold runesFrom at h
    split at h
    · rcases List.mem_cons.1 h with rfl | h
      · exact decode_ok s i
      · exact runesFrom_ok s n _ c h
    · cases h
theorem runesOf_ok (s : ByteArray) : ∀ c ∈ runesOf s, okRune c := runesFrom_ok s _ _
/-- The runes of bytes that are well formed, written again, are the bytes. -/
theorem runes_back (s : ByteArray) : ∀ (n i : Nat), s.size - i ≤ n → Lib.validGoD n (s.data.toList.drop i) = true → (runesFrom s n i).flatMap Lib.encodeRune = s.data.toList.drop i
  | 0, i, hn, _ => by
    have : s.data.toList.length ≤ i := by rw [bytes_len]; omega
    rw [List.drop_of_length_le this]
    rfl
  | n + 1, i, hn, hv => by
    unfold Lib.validGoD at hv
    have hlen := bytes_len s
    by_cases hi : i < s.size
    · have hne : s.data.toList.drop i ≠ [] := by
        intro e
        have := congrArg List.length e
        simp only [List.length_drop, List.length_nil, hlen] at this
        omega
      rw [if_neg hne] at hv
      split at hv
      · cases hv
      · rename_i hbad
        rw [runesFrom_step s n i hi, List.flatMap_cons]
        have e1 := Lib.encode_decode _ hne hbad
        rw [Lib.decodeL_drop] at e1 hv
        rw [List.drop_drop] at hv
        have hw := width_pos s i hi
        rw [runes_back s n (i + (Utf8.decode s i).2) (by omega) hv, e1, ← List.drop_drop, List.take_append_drop]
    · have : s.data.toList.length ≤ i := by omega
      rw [List.drop_of_length_le this, runesFrom_end s (n + 1) i hi]
      rfl
theorem valid_inj {a b : ByteArray} (ha : Lib.validD a.data.toList = true) (hb : Lib.validD b.data.toList = true) (h : runesOf a = runesOf b) : a = b := by
  have e : ∀ s : ByteArray, Lib.validD s.data.toList = true → (runesOf s).flatMap Lib.encodeRune = s.data.toList := fun s hs => by
    have := runes_back s s.size 0 (by omega) (by rw [List.drop_zero]; unfold Lib.validD at hs; rw [bytes_len] at hs; exact hs)
    simpa [runesOf] using this
  apply ByteArray.ext
  apply Array.toList_inj.1
  rw [← e a ha, ← e b hb, h]
/-- Texts. -/
theorem chars_text_inj {a b : ByteArray} (ha : anewB a = a) (hb : anewB b = b) {R S : List UInt8} (hR : stops false R) (hS : stops false S) (h : charsP a false ++ R = charsP b false ++ S) : a = b ∧ R = S := by
  obtain ⟨h1, h2⟩ := flat_inj false (runesOf a) (runesOf b) (runesOf_ok a) (runesOf_ok b) R S hR hS h
  refine ⟨?_, h2⟩
  rw [← ha, ← hb]
  unfold anewB
  rw [h1]
/-- Values. -/
theorem chars_value_inj {a b : ByteArray} (ha : Lib.validD a.data.toList = true) (hb : Lib.validD b.data.toList = true) {R S : List UInt8} (hR : stops true R) (hS : stops true S) (h : charsP a true ++ R = charsP b true ++ S) : a = b ∧ R = S := by
  obtain ⟨h1, h2⟩ := flat_inj true (runesOf a) (runesOf b) (runesOf_ok a) (runesOf_ok b) R S hR hS h
  exact ⟨valid_inj ha hb h1, h2⟩
end Go.Proofs.YtbbikcmkcgoamaaDoor.Pp

/-
  Plain laws: names, attributes and nodes that may be are known from their markup.
-/
namespace Go.Proofs.YtbbikcmkcgoamaaDoor.Pp
open Go.RowKit
set_option linter.unusedVariables false
set_option linter.unusedSimpArgs false

/-- Two heads without a mark, each with a mark behind it. -/
theorem split_mark (p : UInt8 → Bool) : ∀ (l m X Y : List UInt8), (∀ b ∈ l, p b = false) → (∀ b ∈ m, p b = false) → (∃ b t, X = b :: t ∧ p b = true) → (∃ b t, Y = b :: t ∧ p b = true) → l ++ X = m ++ Y → l = m ∧ X = Y
  | [], [], X, Y, _, _, _, _, h => ⟨rfl, h⟩
  | [], b :: m, X, Y, _, hm, ⟨c, t, e, hc⟩, _, h => by
    subst e
    simp only [List.nil_append, List.cons_append, List.cons.injEq] at h
    have := hm b (List.mem_cons_self ..)
    rw [← h.1, hc] at this
    cases this
  | b :: l, [], X, Y, hl, _, _, ⟨c, t, e, hc⟩, h => by
    subst e
    simp only [List.nil_append, List.cons_append, List.cons.injEq] at h
    have := hl b (List.mem_cons_self ..)
    rw [h.1, hc] at this
    cases this
  | b :: l, c :: m, X, Y, hl, hm, hX, hY, h => by
    simp only [List.cons_append, List.cons.injEq] at h
    obtain ⟨e1, e2⟩ := split_mark p l m X Y (fun x hx => hl x (List.mem_cons_of_mem _ hx)) (fun x hx => hm x (List.mem_cons_of_mem _ hx)) hX hY h.2
    exact ⟨by rw [h.1, e1], e2⟩
theorem elem_tag {t : Int} (h : 2 ≤ tclass t) : t = 1 ∨ t = 2 ∨ t = 3 ∨ t = 4 ∨ t = 5 ∨ t = 6 ∨ t = 7 ∨ t = 8 ∨ t = 9 ∨ t = 10 ∨ t = 11 ∨ t = 12 ∨ t = 13 ∨ t = 14 ∨ t = 15 ∨ t = 16 := by
  rcases tclass_of (t := t) (by omega) with rfl | h
  · exact absurd h (by decide)
  · exact h
theorem tname_marks (t : Int) (h : 2 ≤ tclass t) : (∀ b ∈ bl (tname t), (b == 32 || b == 62) = false) ∧ ∃ b l, bl (tname t) = b :: l ∧ b ≠ 47 := by
  rcases elem_tag h with rfl | rfl | rfl | rfl | rfl | rfl | rfl | rfl | rfl | rfl | rfl | rfl | rfl | rfl | rfl | rfl <;> exact ⟨by decide, _, _, rfl, by decide⟩
theorem tname_inj {t u : Int} (h : 2 ≤ tclass t) (h2 : 2 ≤ tclass u) (e : bl (tname t) = bl (tname u)) : t = u := by
  rcases elem_tag h with rfl | rfl | rfl | rfl | rfl | rfl | rfl | rfl | rfl | rfl | rfl | rfl | rfl | rfl | rfl | rfl <;>
  rcases elem_tag h2 with rfl | rfl | rfl | rfl | rfl | rfl | rfl | rfl | rfl | rfl | rfl | rfl | rfl | rfl | rfl | rfl <;>
  first | rfl | exact absurd e (by decide)
theorem name_bytes (s : ByteArray) : ∀ (n i : Nat), s.size - i ≤ n → nameFrom s n i = true → ∀ b ∈ s.data.toList.drop i, (b == 61) = false
  | 0, i, hn, _, b, hb => by
    rw [List.drop_of_length_le (by rw [bytes_len]; omega)] at hb
    cases hb
  | n + 1, i, hn, h, b, hb => by
    by_cases hi : i < s.size
    · unfold nameFrom at h
      rw [if_pos hi] at h
      split at h
      · cases h
      · rename_i hbad
        have hc : (Utf8.decode s i).1 ≤ 122 := by
          simp only [nameBad] at hbad
          simp at hbad
          omega
        have hlow : (s[i]'hi).toNat < 128 := by
          by_cases h1 : (s[i]'hi).toNat < 128
          · exact h1
          · have := (decode_high s i hi (by omega)).1
            omega
        rw [decode_ascii s i hi hlow] at h hbad
        have hd : s.data.toList.drop i = s[i] :: s.data.toList.drop (i + 1) := by
          rw [List.drop_eq_getElem_cons (by rw [bytes_len]; exact hi)]
          rfl
        rw [hd] at hb
        rcases List.mem_cons.1 hb with rfl | hb
        · have : (s[i]'hi).toNat ≠ 61 := by
            intro e
            rw [e] at hbad
            simp [nameBad] at hbad
          simp only [beq_eq_false_iff_ne, ne_eq]
          intro e
          rw [e] at this
          exact this rfl
        · exact name_bytes s n (i + 1) (by omega) h b hb
    · rw [List.drop_of_length_le (by rw [bytes_len]; omega)] at hb
      cases hb
end Go.Proofs.YtbbikcmkcgoamaaDoor.Pp

/-
  Plain law: normal nodes of the same inner markup are the same.
-/
namespace Go.Proofs.YtbbikcmkcgoamaaDoor.Pp
open Go.RowKit
set_option linter.unusedVariables false
set_option linter.unusedSimpArgs false

/-- Attributes that may be. -/
def gA (l : List S47) : Prop := ∀ a ∈ l, nameOk a.f0 = true ∧ valueOk a.f1 = true
theorem mayFrom_g (L : List S47) : ∀ (l : List S47) (i : Nat), mayFrom L l i = true → gA l
  | [], _, _ => fun a h => by cases h
  | b :: l, i, h => by
    unfold mayFrom at h
    simp only [Bool.and_eq_true] at h
    intro a ha
    rcases List.mem_cons.1 ha with rfl | ha
    · exact ⟨h.1, h.2.1⟩
    · exact mayFrom_g L l (i + 1) h.2.2.2 a ha
theorem name_all {s : ByteArray} (h : nameOk s = true) : ∀ b ∈ bl s, (b == 61) = false := by
  unfold nameOk at h
  simp only [Bool.and_eq_true] at h
  intro b hb
  exact name_bytes s s.size 0 (by omega) h.2 b (by rw [List.drop_zero]; exact hb)
theorem value_valid {s : ByteArray} (h : valueOk s = true) : Lib.validD s.data.toList = true := by
  unfold valueOk at h
  simp only [Bool.and_eq_true] at h
  exact h.2.2
theorem bl_inj {a b : ByteArray} (h : bl a = bl b) : a = b := ByteArray.ext (Array.toList_inj.1 h)
theorem attrs_inj : ∀ (l m : List S47) (X Y : List UInt8), gA l → gA m → attrsP l ++ 62 :: X = attrsP m ++ 62 :: Y → l = m ∧ X = Y
  | [], [], X, Y, _, _, h => by
    simp only [attrsP, List.nil_append, List.cons.injEq, true_and] at h
    exact ⟨rfl, h⟩
  | [], b :: m, X, Y, _, _, h => by
    simp [attrsP] at h
  | b :: l, [], X, Y, _, _, h => by
    simp [attrsP] at h
  | a :: l, b :: m, X, Y, hl, hm, h => by
    simp only [attrsP, List.append_assoc, List.cons_append, List.nil_append, List.cons.injEq, true_and] at h
    obtain ⟨e0, h1⟩ := split_mark (fun c => c == 61) (bl a.f0) (bl b.f0) _ _ (name_all (hl a (List.mem_cons_self ..)).1) (name_all (hm b (List.mem_cons_self ..)).1) ⟨61, _, rfl, rfl⟩ ⟨61, _, rfl, rfl⟩ h
    simp only [List.cons.injEq, true_and] at h1
    obtain ⟨e1, h2⟩ := chars_value_inj (value_valid (hl a (List.mem_cons_self ..)).2) (value_valid (hm b (List.mem_cons_self ..)).2) (.inr ⟨34, _, rfl, .inr ⟨rfl, rfl⟩⟩) (.inr ⟨34, _, rfl, .inr ⟨rfl, rfl⟩⟩) h1
    simp only [List.cons.injEq, true_and] at h2
    obtain ⟨e2, h3⟩ := attrs_inj l m X Y (fun x hx => hl x (List.mem_cons_of_mem _ hx)) (fun x hx => hm x (List.mem_cons_of_mem _ hx)) h2
    refine ⟨?_, h3⟩
    rw [e2]
    congr 1
    cases a; cases b
    cases bl_inj e0
    cases e1
    rfl
mutual
/-- A node that may be somewhere. -/
def gN : S25 → Prop
  | ⟨t, l, tx, ks⟩ => (tclass t = 1 ∧ l = [] ∧ ks = [] ∧ tx ≠ ⟨#[]⟩ ∧ anewB tx = tx) ∨ (2 ≤ tclass t ∧ tx = ⟨#[]⟩ ∧ gA l ∧ (tclass t = 5 → ks = []) ∧ gK ks false)
def gK : List S25 → Bool → Prop
  | [], _ => True
  | k :: ks, pt => (pt && k.f0 == 0) = false ∧ gN k ∧ gK ks (k.f0 == 0)
end
theorem toList_nil {s : ByteArray} (h : s.toList.isEmpty = true) : s = ⟨#[]⟩ := by
  have h1 : s.toList = [] := by simpa using h
  rw [ByteArray.toList_eq] at h1
  exact ByteArray.ext (Array.toList_inj.1 h1)
theorem textOk_g {n : S25} {box : Bool} (h : textOk n box = true) : n.f1 = [] ∧ n.f3 = [] ∧ n.f2 ≠ ⟨#[]⟩ ∧ anewB n.f2 = n.f2 := by
  unfold textOk at h
  simp only [Bool.and_eq_true, decide_eq_true_eq, Bool.not_eq_true', beq_iff_eq] at h
  obtain ⟨h1, h2, h3, h4, _⟩ := h
  refine ⟨List.eq_nil_of_length_eq_zero h1, List.eq_nil_of_length_eq_zero h2, ?_, ?_⟩
  · intro e
    rw [e] at h3
    exact absurd h3 (by simp [ByteArray.toList_eq])
  · rw [ByteArray.toList_eq, ByteArray.toList_eq] at h4
    exact ByteArray.ext (Array.toList_inj.1 h4)
mutual
theorem lookN_g : ∀ (n : S25) (d : Nat) (box line li : Bool) (c : Nat), (lookN n d box line li c).1 = true → gN n
  | ⟨t, l, tx, ks⟩, d, box, line, li, c, h => by
    unfold lookN at h
    unfold gN
    split at h
    · cases h
    · split at h
      · cases h
      · rename_i c0
        split at h
        · rename_i c1
          exact .inl ⟨c1, (textOk_g h).1, (textOk_g h).2.1, (textOk_g h).2.2.1, (textOk_g h).2.2.2⟩
        · rename_i c1
          have hr := tclass_le t
          split at h
          · simp only [Bool.and_eq_true, decide_eq_true_eq] at h
            have hk := List.eq_nil_of_length_eq_zero h.2.2
            subst hk
            exact .inr ⟨by omega, toList_nil h.1, mayFrom_g _ _ _ h.2.1, fun _ => rfl, by unfold gK; trivial⟩
          · rename_i c5
            split at h
            · cases h
            · split at h
              · rename_i hb
                simp only [Bool.and_eq_true] at hb
                exact .inr ⟨by omega, toList_nil hb.1, mayFrom_g _ _ _ hb.2, fun e => absurd e c5, lookK_g ks _ _ _ _ _ _ h⟩
              · cases h
theorem lookK_g : ∀ (l : List S25) (pt : Bool) (d : Nat) (box line li : Bool) (c : Nat), (lookK l pt d box line li c).1 = true → gK l pt
  | [], _, _, _, _, _, _, _ => by unfold gK; trivial
  | k :: ks, pt, d, box, line, li, c, h => by
    unfold lookK at h
    unfold gK
    split at h
    · cases h
    · rename_i hpt
      split at h
      · rename_i hk
        exact ⟨by simpa using hpt, lookN_g k d box line li c hk, lookK_g ks _ _ _ _ _ _ h⟩
      · cases h
end
end Go.Proofs.YtbbikcmkcgoamaaDoor.Pp

/-
  Plain law: normal nodes of the same inner markup are the same.
-/
namespace Go.Proofs.YtbbikcmkcgoamaaDoor.Pp
open Go.RowKit
set_option linter.unusedVariables false
set_option linter.unusedSimpArgs false

/-- What may stand behind the kids of a node. -/
def ends (R : List UInt8) : Prop := R = [] ∨ ∃ X, R = 60 :: 47 :: X
theorem tname_head {t : Int} (h : 2 ≤ tclass t) : ∃ b l, bl (tname t) = b :: l ∧ b ≠ 47 := (tname_marks t h).2
theorem elem_head {n : S25} (h : 2 ≤ tclass n.f0) : ∃ b X, nodeP n = 60 :: b :: X ∧ b ≠ 47 := by
  obtain ⟨b, l, e, hb⟩ := tname_head h
  by_cases h5 : tclass n.f0 = 5
  · rw [nodeP_void h5, e]
    exact ⟨b, _, rfl, hb⟩
  · rw [nodeP_else (by omega) (by omega) h5, e]
    exact ⟨b, _, rfl, hb⟩
theorem text_head {n : S25} (h1 : tclass n.f0 = 1) (hne : n.f2 ≠ ⟨#[]⟩) : ∃ b X, nodeP n = b :: X ∧ b ≠ 60 := by
  rw [nodeP_text h1]
  have hs : 0 < n.f2.size := by
    rcases Nat.eq_zero_or_pos n.f2.size with h | h
    · exact absurd (ByteArray.ext (Array.eq_empty_of_size_eq_zero h)) hne
    · exact h
  unfold charsP runesOf
  obtain ⟨k, hk⟩ : ∃ k, n.f2.size = k + 1 := ⟨n.f2.size - 1, by omega⟩
  rw [hk, runesFrom_step n.f2 k 0 hs, List.flatMap_cons]
  obtain ⟨b, l, e, h60, _⟩ := esc_head false _ (decode_ok n.f2 0)
  rw [e]
  exact ⟨b, _, rfl, h60⟩
theorem gN_cases {n : S25} (h : gN n) : (tclass n.f0 = 1 ∧ n.f1 = [] ∧ n.f3 = [] ∧ n.f2 ≠ ⟨#[]⟩ ∧ anewB n.f2 = n.f2) ∨ (2 ≤ tclass n.f0 ∧ n.f2 = ⟨#[]⟩ ∧ gA n.f1 ∧ (tclass n.f0 = 5 → n.f3 = []) ∧ gK n.f3 false) := by
  cases n
  unfold gN at h
  exact h
theorem node_head {n : S25} (h : gN n) : ∃ b X, nodeP n = b :: X ∧ (b = 60 → ∃ b2 Y, X = b2 :: Y ∧ b2 ≠ 47) := by
  rcases gN_cases h with ⟨h1, _, _, hne, _⟩ | ⟨h2, _⟩
  · obtain ⟨b, X, e, hb⟩ := text_head h1 hne
    exact ⟨b, X, e, fun e => absurd e hb⟩
  · obtain ⟨b, X, e, hb⟩ := elem_head h2
    exact ⟨60, b :: X, e, fun _ => ⟨b, X, rfl, hb⟩⟩
/-- Behind a text stand no characters. -/
theorem after_text {ks : List S25} {R : List UInt8} (h : gK ks true) (hR : ends R) : stops false (kidsP ks ++ R) := by
  cases ks with
  | nil =>
    rw [kidsP, List.nil_append]
    rcases hR with rfl | ⟨X, rfl⟩
    · exact .inl rfl
    · exact .inr ⟨60, _, rfl, .inl rfl⟩
  | cons k ks =>
    unfold gK at h
    obtain ⟨h1, h2, _⟩ := h
    rw [kidsP]
    have ht : tclass k.f0 ≠ 1 := by
      intro e
      rw [tclass_text e] at h1
      exact absurd h1 (by decide)
    rcases gN_cases h2 with ⟨h3, _⟩ | ⟨h3, _⟩
    · exact absurd h3 ht
    · obtain ⟨b, X, e, _⟩ := elem_head h3
      rw [e]
      exact .inr ⟨60, _, rfl, .inl rfl⟩
theorem elem_parts {n : S25} (h2 : 2 ≤ tclass n.f0) (R : List UInt8) : ∃ b T, nodeP n ++ R = 60 :: (bl (tname n.f0) ++ b :: T) ∧ (b == 32 || b == 62) = true ∧ b :: T = attrsP n.f1 ++ 62 :: ((if tclass n.f0 = 5 then [] else kidsP n.f3 ++ ([60, 47] ++ bl (tname n.f0) ++ [62])) ++ R) := by
  have key : nodeP n ++ R = 60 :: (bl (tname n.f0) ++ (attrsP n.f1 ++ 62 :: ((if tclass n.f0 = 5 then [] else kidsP n.f3 ++ ([60, 47] ++ bl (tname n.f0) ++ [62])) ++ R))) := by
    by_cases h5 : tclass n.f0 = 5
    · rw [nodeP_void h5, if_pos h5]
      simp
    · rw [nodeP_else (by omega) (by omega) h5, if_neg h5, innerP_of (by omega)]
      simp
  cases hl : n.f1 with
  | nil =>
    rw [hl] at key
    exact ⟨62, _, key, rfl, rfl⟩
  | cons a l =>
    rw [hl] at key
    refine ⟨32, bl a.f0 ++ [61, 34] ++ charsP a.f1 true ++ [34] ++ attrsP l ++ 62 :: ((if tclass n.f0 = 5 then [] else kidsP n.f3 ++ ([60, 47] ++ bl (tname n.f0) ++ [62])) ++ R), ?_, rfl, ?_⟩
    · rw [key]
      simp [attrsP]
    · simp [attrsP]
theorem kids_inj : ∀ (N : Nat) (ks ms : List S25) (pt qt : Bool) (R S : List UInt8), SizeOf.sizeOf ks ≤ N → gK ks pt → gK ms qt → ends R → ends S → kidsP ks ++ R = kidsP ms ++ S → ks = ms ∧ R = S := by
  intro N
  induction N with
  | zero =>
    intro ks ms pt qt R S h
    cases ks <;> simp at h
  | succ N ih =>
    intro ks ms pt qt R S h hk hm hR hS he
    have nil_case : ∀ (m : S25) (l : List S25) (A B : List UInt8), gN m → ends A → A ≠ kidsP (m :: l) ++ B := by
      intro m l A B hg hA e
      obtain ⟨b, X, e1, h1⟩ := node_head hg
      rw [kidsP, e1] at e
      rcases hA with rfl | ⟨Y, rfl⟩
      · simp at e
      · simp only [List.cons_append, List.cons.injEq] at e
        obtain ⟨b2, Z, e2, h2⟩ := h1 e.1.symm
        rw [e2] at e
        simp only [List.cons_append, List.cons.injEq] at e
        exact h2 e.2.1.symm
    cases ks with
    | nil =>
      cases ms with
      | nil => exact ⟨rfl, by simpa [kidsP] using he⟩
      | cons m ms =>
        unfold gK at hm
        exact absurd (by simpa [kidsP] using he) (nil_case m ms R S hm.2.1 hR)
    | cons k ks =>
      cases ms with
      | nil =>
        unfold gK at hk
        exact absurd (by simpa [kidsP] using he.symm) (nil_case k ks S R hk.2.1 hS)
      | cons m ms =>
        unfold gK at hk hm
        obtain ⟨k1, k2, k3⟩ := hk
        obtain ⟨m1, m2, m3⟩ := hm
        rw [kidsP, kidsP, List.append_assoc, List.append_assoc] at he
        have hsz : SizeOf.sizeOf ks ≤ N := by
          simp only [List.cons.sizeOf_spec] at h
          omega
        have hszk : SizeOf.sizeOf k.f3 ≤ N := by
          have : SizeOf.sizeOf k = 1 + SizeOf.sizeOf k.f0 + SizeOf.sizeOf k.f1 + SizeOf.sizeOf k.f2 + SizeOf.sizeOf k.f3 := by cases k; simp
          simp only [List.cons.sizeOf_spec] at h
          omega
        rcases gN_cases k2 with ⟨a1, a2, a3, a4, a5⟩ | ⟨a1, a2, a3, a4, a5⟩
        · rcases gN_cases m2 with ⟨b1, b2, b3, b4, b5⟩ | ⟨b1, b2, b3, b4, b5⟩
          · rw [nodeP_text a1, nodeP_text b1] at he
            have t1 := tclass_text a1
            have t2 := tclass_text b1
            rw [t1] at k3
            rw [t2] at m3
            obtain ⟨e1, e2⟩ := chars_text_inj a5 b5 (after_text k3 hR) (after_text m3 hS) he
            obtain ⟨e3, e4⟩ := ih ks ms _ _ R S hsz k3 m3 hR hS e2
            refine ⟨?_, e4⟩
            rw [e3]
            congr 1
            exact node_ext (by rw [t1, t2]) (by rw [a2, b2]) e1 (by rw [a3, b3])
          · obtain ⟨b, X, e1, h1⟩ := text_head a1 a4
            obtain ⟨c, Y, e2, h2⟩ := elem_head b1
            rw [e1, e2] at he
            simp only [List.cons_append, List.cons.injEq] at he
            exact absurd he.1 h1
        · rcases gN_cases m2 with ⟨b1, b2, b3, b4, b5⟩ | ⟨b1, b2, b3, b4, b5⟩
          · obtain ⟨b, X, e1, h1⟩ := text_head b1 b4
            obtain ⟨c, Y, e2, h2⟩ := elem_head a1
            rw [e1, e2] at he
            simp only [List.cons_append, List.cons.injEq] at he
            exact absurd he.1.symm h1
          · obtain ⟨b, T, e1, hb, e2⟩ := elem_parts a1 (kidsP ks ++ R)
            obtain ⟨c, U, f1, hc, f2⟩ := elem_parts b1 (kidsP ms ++ S)
            rw [e1, f1] at he
            simp only [List.cons.injEq, true_and] at he
            obtain ⟨g1, g2⟩ := split_mark (fun x => x == 32 || x == 62) _ _ _ _ (tname_marks _ a1).1 (tname_marks _ b1).1 ⟨b, T, rfl, hb⟩ ⟨c, U, rfl, hc⟩ he
            have ht := tname_inj a1 b1 g1
            rw [e2, f2] at g2
            obtain ⟨g3, g4⟩ := attrs_inj _ _ _ _ a3 b3 g2
            rw [← ht] at g4
            by_cases h5 : tclass k.f0 = 5
            · simp only [if_pos h5, List.nil_append] at g4
              obtain ⟨e3, e4⟩ := ih ks ms _ _ R S hsz k3 m3 hR hS g4
              refine ⟨?_, e4⟩
              rw [e3]
              congr 1
              exact node_ext ht g3 (by rw [a2, b2]) (by rw [a4 h5, b4 (by rw [← ht]; exact h5)])
            · rw [if_neg h5, if_neg h5, List.append_assoc (kidsP k.f3), List.append_assoc (kidsP m.f3)] at g4
              obtain ⟨e5, e6⟩ := ih k.f3 m.f3 _ _ (([60, 47] ++ bl (tname k.f0) ++ [62]) ++ (kidsP ks ++ R)) (([60, 47] ++ bl (tname k.f0) ++ [62]) ++ (kidsP ms ++ S)) hszk a5 b5 (.inr ⟨bl (tname k.f0) ++ [62] ++ (kidsP ks ++ R), by simp⟩) (.inr ⟨bl (tname k.f0) ++ [62] ++ (kidsP ms ++ S), by simp⟩) g4
              have e7 := List.append_cancel_left e6
              obtain ⟨e3, e4⟩ := ih ks ms _ _ R S hsz k3 m3 hR hS e7
              refine ⟨?_, e4⟩
              rw [e3]
              congr 1
              exact node_ext ht g3 (by rw [a2, b2]) e5
/-- Unlike normal nodes have unlike markup. -/
theorem normal_inj {n m : S25} (hn : normalP n = true) (hm : normalP m = true) (h : innerP n = innerP m) : n = m := by
  have key : ∀ x : S25, normalP x = true → x.f0 = 1 ∧ x.f1 = [] ∧ x.f2 = ⟨#[]⟩ ∧ gK x.f3 false := by
    intro x hx
    unfold normalP at hx
    simp only [Bool.and_eq_true, decide_eq_true_eq, beq_iff_eq] at hx
    exact ⟨hx.1, List.eq_nil_of_length_eq_zero hx.2.1, toList_nil hx.2.2.1, lookK_g _ _ _ _ _ _ _ hx.2.2.2.1⟩
  obtain ⟨a1, a2, a3, a4⟩ := key n hn
  obtain ⟨b1, b2, b3, b4⟩ := key m hm
  have e1 : innerP n = kidsP n.f3 := by unfold innerP; rw [if_neg (by omega)]
  have e2 : innerP m = kidsP m.f3 := by unfold innerP; rw [if_neg (by omega)]
  rw [e1, e2] at h
  obtain ⟨e3, _⟩ := kids_inj _ n.f3 m.f3 _ _ [] [] (Nat.le_refl _) a4 b4 (.inl rfl) (.inl rfl) (by rw [h])
  exact node_ext (by rw [a1, b1]) (by rw [a2, b2]) (by rw [a3, b3]) e3
end Go.Proofs.YtbbikcmkcgoamaaDoor.Pp
