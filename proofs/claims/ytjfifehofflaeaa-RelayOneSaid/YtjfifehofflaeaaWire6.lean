/-
  The reader's calls, in one form whether they come through or not.
-/
import Derived.Test.YtjfifehofflaeaaWire5
namespace Go.Wire
open Go.RowKit Go.Eng Go.Proofs
set_option linter.unusedSimpArgs false
set_option linter.unusedVariables false
section
variable {w0 w : World} {R : List Ent} {g : Nat} {A : Option Addr} {cap : Nat} {b : By} {at_ : Nat} {err : Int}
theorem rawS_err {l : By} {n : Int} {c : Nat} (h : rawS l n = .error c) : c ≠ 0 := by
  unfold rawS at h
  split at h
  · cases h; decide
  · split at h
    · cases h
    · cases h; decide
theorem raw_calls {n : Int} (hn : n ≤ 9223372036854775807) (H : Heap w0 (rdr w0 g A cap b at_ err R) w) (hcap : b.length ≤ cap) (hb : b.length ≤ 140737488355328) (hat : at_ ≤ b.length) :
    Calls Try.prog 54 #[.pointer (some ⟨g, 0, none⟩), .int .i64 n] w fun e w' => ∃ a' er A1 c1 l1, e = .returned (.slice A1 l1.length c1) ∧ l1.length ≤ c1 ∧ a' ≤ b.length ∧
      ((err = 0 ∧ er = 0 ∧ rawS (b.drop at_) n = .ok l1 ∧ a' = at_ + l1.length) ∨ (er ≠ 0 ∧ a' = at_ ∧ l1 = [] ∧ ((err ≠ 0 ∧ er = err) ∨ (err = 0 ∧ ∃ c : Nat, er = c ∧ rawS (b.drop at_) n = .error c)))) ∧
      Heap w0 (rdr w0 g A cap b a' er (rowB w0 A1 c1 l1 :: R)) w' := by
  refine (wire_Reader_Raw_calls hn H hcap hb hat).mono ?_
  rintro e w' ⟨v, rfl, ⟨hne, rfl, H⟩ | ⟨h0, ⟨Y, kk, ⟨l, hl, rfl, hle, rfl⟩, H⟩ | ⟨c, hc, rfl, H⟩⟩⟩
  · exact ⟨at_, err, none, 0, [], rfl, Nat.le_refl _, hat, .inr ⟨hne, rfl, rfl, .inl ⟨hne, rfl⟩⟩, (H.row0 5 1).perm ((List.Perm.swap _ _ _).trans ((List.Perm.swap _ _ _).cons _))⟩
  · obtain ⟨A1, c1, rfl, hc1⟩ := row_form (H.get 2 rfl)
    exact ⟨at_ + l.length, 0, A1, c1, l, rfl, hc1, hle, .inl ⟨h0, rfl, hl, rfl⟩, H⟩
  · exact ⟨at_, c, none, 0, [], rfl, Nat.le_refl _, hat, .inr ⟨by have := rawS_err hc; omega, rfl, rfl, .inr ⟨h0, c, rfl, hc⟩⟩, (H.row0 5 1).perm ((List.Perm.swap _ _ _).trans ((List.Perm.swap _ _ _).cons _))⟩
theorem rawN_calls {n : Nat} (hn : n ≤ 9223372036854775807) (H : Heap w0 (rdr w0 g A cap b at_ err R) w) (hcap : b.length ≤ cap) (hb : b.length ≤ 140737488355328) (hat : at_ ≤ b.length) :
    Calls Try.prog 54 #[.pointer (some ⟨g, 0, none⟩), .int .i64 (n : Nat)] w fun e w' => ∃ a' er A1 c1 l1, e = .returned (.slice A1 l1.length c1) ∧ l1.length ≤ c1 ∧ a' ≤ b.length ∧
      ((err = 0 ∧ er = 0 ∧ at_ + n ≤ b.length ∧ l1 = (b.drop at_).take n ∧ a' = at_ + n) ∨ (er ≠ 0 ∧ a' = at_ ∧ l1 = [] ∧ ((err ≠ 0 ∧ er = err) ∨ (err = 0 ∧ er = 2 ∧ b.length < at_ + n)))) ∧
      Heap w0 (rdr w0 g A cap b a' er (rowB w0 A1 c1 l1 :: R)) w' := by
  refine (raw_calls (n := (n : Int)) (by omega) H hcap hb hat).mono ?_
  rintro e w' ⟨a', er, A1, c1, l1, he, hc, ha, hcs, H⟩
  refine ⟨a', er, A1, c1, l1, he, hc, ha, ?_, H⟩
  have hl : ((b.drop at_).length : Int) = (b.length : Int) - at_ := by rw [List.length_drop]; omega
  rcases hcs with ⟨h0, h1, h2, h3⟩ | ⟨h1, h2, h3, h4 | ⟨h5, c, h6, h7⟩⟩
  · left
    unfold rawS at h2
    rw [if_neg (by omega)] at h2
    split at h2
    · rename_i hle
      simp only [Except.ok.injEq, Int.toNat_natCast] at h2
      subst h2
      refine ⟨h0, h1, by omega, rfl, ?_⟩
      rw [h3, List.length_take, List.length_drop]; omega
    · cases h2
  · exact .inr ⟨h1, h2, h3, .inl h4⟩
  · right
    unfold rawS at h7
    rw [if_neg (by omega)] at h7
    split at h7
    · cases h7
    · rename_i hle
      cases h7
      exact ⟨h1, h2, h3, .inr ⟨h5, h6, by omega⟩⟩
theorem rd_sub {w : World} {A : Option Addr} {bs : By} {c : Nat} (hR : Rd w A (bs.map bv)) (hc : bs.length ≤ c) (l : Nat) : Rd w (subA A c l 1) ((bs.drop l).map bv) := by
  have h := hR.sub (cap := c) (l := l) (size := 1) (by rw [List.length_map]; omega)
  rw [Nat.mul_one, ← List.map_drop] at h
  exact h
theorem bytes_ne {l m : By} : ((⟨l.toArray⟩ : ByteArray) ≠ ⟨m.toArray⟩) ↔ l ≠ m := by simp
theorem word_reads (H : Heap w0 (rdr w0 g A cap b at_ err R) w) (hcap : b.length ≤ cap) (hb : b.length ≤ 140737488355328) (hat : at_ ≤ b.length) :
    Calls Try.prog 106 #[.pointer (some ⟨g, 0, none⟩)] w fun e w' => ∃ (a' : Nat) (er : Int) (x : Nat), e = .returned (.int .u64 x) ∧ a' ≤ b.length ∧
      ((err = 0 ∧ er = 0 ∧ at_ + 8 ≤ b.length ∧ x = beN ((b.drop at_).take 8) ∧ a' = at_ + 8) ∨ (er ≠ 0 ∧ a' = at_ ∧ x = 0 ∧ ((err ≠ 0 ∧ er = err) ∨ (err = 0 ∧ er = 2 ∧ b.length < at_ + 8)))) ∧
      Heap w0 (rdr w0 g A cap b a' er R) w' := by
  refine (wire_Reader_Word_calls H hcap hb hat).mono ?_
  rintro e w' ⟨v, rfl, ⟨hne, rfl, H⟩ | ⟨h0, ⟨Y, kk, ⟨hle, rfl, rfl, rfl⟩, H⟩ | ⟨c, ⟨hc, rfl⟩, rfl, H⟩⟩⟩
  · exact ⟨at_, err, 0, rfl, hat, .inr ⟨hne, rfl, rfl, .inl ⟨hne, rfl⟩⟩, H⟩
  · exact ⟨at_ + 8, 0, _, rfl, hle, .inl ⟨h0, rfl, hle, rfl, rfl⟩, H⟩
  · exact ⟨at_, 2, 0, rfl, hat, .inr ⟨by decide, rfl, rfl, .inr ⟨h0, rfl, hc⟩⟩, H⟩
theorem numS_err : ∀ (l : By) (i x c : Nat), numS l i x = .error c → c ≠ 0
  | [], i, x, c, h => by rw [numS] at h; cases h; decide
  | d :: l, i, x, c, h => by
    rw [numS] at h
    split at h
    · cases h; decide
    · split at h
      · cases h
      · exact numS_err l _ _ c h
theorem cntS_err {l : By} {most c : Nat} (h : cntS l most = .error c) : c ≠ 0 := by
  unfold cntS at h
  split at h
  · rename_i hn; cases h; exact numS_err _ _ _ _ hn
  · split at h
    · cases h
    · cases h; decide
theorem textS_err {l : By} {most c : Nat} (h : textS l most = .error c) : c ≠ 0 := by
  unfold textS at h
  split at h
  · rename_i hn; cases h; exact cntS_err hn
  · split at h
    · cases h
    · cases h; decide
theorem count_reads {most : Nat} (hm : most ≤ 4611686018427387904) (H : Heap w0 (rdr w0 g A cap b at_ err R) w) (hcap : b.length ≤ cap) (hb : b.length ≤ 140737488355328) (hat : at_ ≤ b.length) :
    Calls Try.prog 55 #[.pointer (some ⟨g, 0, none⟩), .int .i64 (most : Nat)] w fun e w' => ∃ (a' : Nat) (er : Int) (x : Nat), e = .returned (.int .i64 x) ∧ a' ≤ b.length ∧
      ((err = 0 ∧ er = 0 ∧ ∃ k, cntS (b.drop at_) most = .ok (x, k) ∧ a' = at_ + k) ∨ (er ≠ 0 ∧ a' = at_ ∧ x = 0 ∧ ((err ≠ 0 ∧ er = err) ∨ (err = 0 ∧ ∃ c : Nat, er = c ∧ cntS (b.drop at_) most = .error c)))) ∧
      Heap w0 (rdr w0 g A cap b a' er R) w' := by
  refine (wire_Reader_Count_calls hm H hcap hb hat).mono ?_
  rintro e w' ⟨v, rfl, ⟨hne, rfl, H⟩ | ⟨h0, ⟨Y, kk, ⟨x, hx, rfl, hle, rfl⟩, H⟩ | ⟨c, hc, rfl, H⟩⟩⟩
  · exact ⟨at_, err, 0, rfl, hat, .inr ⟨hne, rfl, rfl, .inl ⟨hne, rfl⟩⟩, H⟩
  · exact ⟨at_ + kk, 0, x, rfl, hle, .inl ⟨h0, rfl, kk, hx, rfl⟩, H⟩
  · exact ⟨at_, c, 0, rfl, hat, .inr ⟨by have := cntS_err hc; omega, rfl, rfl, .inr ⟨h0, c, rfl, hc⟩⟩, H⟩
theorem text_reads {most : Nat} (hm : most ≤ 4611686018427387904) (H : Heap w0 (rdr w0 g A cap b at_ err R) w) (hcap : b.length ≤ cap) (hb : b.length ≤ 140737488355328) (hat : at_ ≤ b.length) :
    Calls Try.prog 57 #[.pointer (some ⟨g, 0, none⟩), .int .i64 (most : Nat)] w fun e w' => ∃ (a' : Nat) (er : Int) (l : By), e = .returned (.string ⟨l.toArray⟩) ∧ a' ≤ b.length ∧
      ((err = 0 ∧ er = 0 ∧ ∃ k, textS (b.drop at_) most = .ok (l, k) ∧ a' = at_ + k) ∨ (er ≠ 0 ∧ a' = at_ ∧ l = [] ∧ ((err ≠ 0 ∧ er = err) ∨ (err = 0 ∧ ∃ c : Nat, er = c ∧ textS (b.drop at_) most = .error c)))) ∧
      Heap w0 (rdr w0 g A cap b a' er R) w' := by
  refine (wire_Reader_Text_calls hm H hcap hb hat).mono ?_
  rintro e w' ⟨v, rfl, ⟨hne, rfl, H⟩ | ⟨h0, ⟨Y, kk, ⟨l, hl, rfl, hle, rfl⟩, H⟩ | ⟨c, hc, rfl, H⟩⟩⟩
  · exact ⟨at_, err, [], rfl, hat, .inr ⟨hne, rfl, rfl, .inl ⟨hne, rfl⟩⟩, H⟩
  · exact ⟨at_ + kk, 0, l, rfl, hle, .inl ⟨h0, rfl, kk, hl, rfl⟩, H⟩
  · exact ⟨at_, c, [], rfl, hat, .inr ⟨by have := textS_err hc; omega, rfl, rfl, .inr ⟨h0, c, rfl, hc⟩⟩, H⟩
end
end Go.Wire
