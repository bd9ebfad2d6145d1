/- Walks: draws. -/
import Derived.Test.YteldnoimmjihoaaChecked
import Derived.Test.YteldnoimmjihoaaBits
import Derived.Test.YteldnoimmjihoaaOpen
import Derived.Test.YteldnoimmjihoaaWkAp
import Derived.Test.YteldnoimmjihoaaFactsE
namespace Go.Proofs.Yteldnoimmjihoaa.Wk
open Go Go.RowKit Sl
set_option linter.unusedVariables false
set_option linter.unusedSimpArgs false
set_option maxRecDepth 20000

set_option maxHeartbeats 4000000 in
set_option maxRecDepth 20000 in
theorem l1Byte_h {W : World} {g : Nat} {vb : Value} {bs : List Int} (hbs : byteEK.Rd W vb bs) {l : List Res} {w : World} (hS : Sep W (Cur g vb bs.length :: l) w) : Calls Try.prog 85 #[.pointer (some ⟨g, 0, none⟩)] w (Ret fun v w' => (∃ x : Int, v = vi x ∧ 0 ≤ x ∧ x ≤ 255) ∧ Sep W (Cur g vb bs.length :: l) w') := by
  refine calls_fr Try.func85 rfl Try.ntmps85 rfl ?_
  intro a hF
  obtain ⟨i, k, hi, hS⟩ := hS.cur_open
  obtain ⟨A_b, q_b, rfl, hq_b, hn_b⟩ := hbs.sl; unfold maxLen at hn_b
  refine ws fun K1 hK1 => ?_
  refine wl_mvs (A := [_]) hF rfl ?_; clear hF a; intro a hF
  refine wl_nil (hK1 _ _ ?_)
  refine ws fun K2 hK2 => ?_
  refine wl_mvs (A := [_, _]) hF rfl ?_; clear hF a; intro a hF
  refine wl hF rfl rfl rfl (r_nilCheck (hF.ev rfl)) ?_; clear hF a; intro a hF
  refine wl hF rfl rfl rfl (r_field fo104_2 (hF.ev rfl)) ?_; clear hF a; intro a hF
  refine wl hF rfl rfl rfl (r_load1 sc3 (hF.ev rfl) (hS.box (i := 0) rfl rfl)) ?_; clear hF a; intro a hF
  refine wl hF rfl rfl rfl (r_mul (hF.ev rfl) ec) ?_; clear hF a; intro a hF
  refine wl hF rfl rfl rfl (r_add (hF.ev rfl) ec) ?_; clear hF a; intro a hF
  refine wl hF rfl rfl rfl (r_nilCheck (hF.ev rfl)) ?_; clear hF a; intro a hF
  refine wl hF rfl rfl rfl (r_field fo104_2 (hF.ev rfl)) ?_; clear hF a; intro a hF
  refine wl_store hF hS (i := 0) rfl sz3 (hF.ev rfl) (hF.ev rfl) rfl rfl ?_; intro w1 hS_; replace hS := hS_; clear hS_; dsimp only [List.set, Nat.reduceAdd] at hS
  refine wl_nil (hK2 _ _ ?_)
  refine wp_seq_k fun K3 hK3 => ?_
  refine wp_region_calm (by kernel_rfl) (by kernel_rfl) ?_
  refine wq_mvs (A := [_]) hF rfl ?_; clear hF a; intro a hF
  refine wq hF rfl rfl rfl (fun w_ hB_ => r_nilCheck (hF.ev rfl)) ?_; clear hF a; intro a hF
  refine wq hF rfl rfl rfl (fun w_ hB_ => r_field fo104_2 (hF.ev rfl)) ?_; clear hF a; intro a hF
  refine wq hF rfl rfl rfl (fun w_ hB_ => r_load1 sc3 (hF.ev rfl) ((hS.ext hB_).box (i := 0) rfl rfl)) ?_; clear hF a; intro a hF
  refine wq hF rfl rfl rfl (fun w_ hB_ => r_shr (by decide) (hF.ev rfl) ec) ?_; clear hF a; intro a hF
  refine wq_mvs (A := [_]) hF rfl ?_; clear hF a; intro a hF
  refine wq hF rfl rfl rfl (fun w_ hB_ => r_nilCheck (hF.ev rfl)) ?_; clear hF a; intro a hF
  refine wq hF rfl rfl rfl (fun w_ hB_ => r_field fo104_2 (hF.ev rfl)) ?_; clear hF a; intro a hF
  refine wq hF rfl rfl rfl (fun w_ hB_ => r_load1 sc3 (hF.ev rfl) ((hS.ext hB_).box (i := 0) rfl rfl)) ?_; clear hF a; intro a hF
  refine wq hF rfl rfl rfl (fun w_ hB_ => r_shr (by decide) (hF.ev rfl) ec) ?_; clear hF a; intro a hF
  refine wq hF rfl rfl rfl (fun w_ hB_ => r_xor (hF.ev rfl) (hF.ev rfl)) ?_; clear hF a; intro a hF
  refine wq hF rfl rfl rfl (fun w_ hB_ => r_and (hF.ev rfl) ec) ?_; clear hF a; intro a hF
  refine wq_mvs (A := [_]) hF rfl ?_; clear hF a; intro a hF
  refine wpQuiet_nil ?_; intro w2 hB_; replace hS := hS.ext hB_; clear hB_
  refine hK3 _ _ ?_
  refine wp_seq_k fun K4 hK4 => ?_
  refine wp_seq_k fun K5 hK5 => ?_
  refine wp_region_calm (by kernel_rfl) (by kernel_rfl) ?_
  refine wq_mvs (A := [_]) hF rfl ?_; clear hF a; intro a hF
  refine wq hF rfl rfl rfl (fun w_ hB_ => r_nilCheck (hF.ev rfl)) ?_; clear hF a; intro a hF
  refine wq hF rfl rfl rfl (fun w_ hB_ => r_field fo104_1 (hF.ev rfl)) ?_; clear hF a; intro a hF
  refine wq hF rfl rfl rfl (fun w_ hB_ => r_load1 sc3 (hF.ev rfl) ((hS.ext hB_).box (i := 0) rfl rfl)) ?_; clear hF a; intro a hF
  refine wq_mvs (A := [_]) hF rfl ?_; clear hF a; intro a hF
  refine wq hF rfl rfl rfl (fun w_ hB_ => r_nilCheck (hF.ev rfl)) ?_; clear hF a; intro a hF
  refine wq hF rfl rfl rfl (fun w_ hB_ => r_field fo104_0 (hF.ev rfl)) ?_; clear hF a; intro a hF
  refine wq hF rfl rfl rfl (fun w_ hB_ => r_load1 sc64 (hF.ev rfl) ((hS.ext hB_).box (i := 0) rfl rfl)) ?_; clear hF a; intro a hF
  refine wq hF rfl rfl rfl (fun w_ hB_ => r_len ul64 (hF.ev rfl)) ?_; clear hF a; intro a hF
  refine wq hF rfl rfl rfl (fun w_ hB_ => r_lss (hF.ev rfl) (hF.ev rfl)) ?_; clear hF a; intro a hF
  refine wpQuiet_nil ?_; intro w3 hB_; replace hS := hS.ext hB_; clear hB_
  refine hK5 _ _ ?_
  refine wc_fx (t := 34) hF rfl ?_ ?_ <;> clear hF <;> intro c34 hF <;> try simp only [zb1, zb2, zb3, zb4, zb5, zb6, zb7, zb8] at c34
  ·
    refine wp_seq_k fun K6 hK6 => ?_
    refine wp_region_calm (by kernel_rfl) (by kernel_rfl) ?_
    refine wq_mvs (A := [_, _]) hF rfl ?_; clear hF a; intro a hF
    refine wq hF rfl rfl rfl (fun w_ hB_ => r_nilCheck (hF.ev rfl)) ?_; clear hF a; intro a hF
    refine wq hF rfl rfl rfl (fun w_ hB_ => r_field fo104_0 (hF.ev rfl)) ?_; clear hF a; intro a hF
    refine wq hF rfl rfl rfl (fun w_ hB_ => r_load1 sc64 (hF.ev rfl) ((hS.ext hB_).box (i := 0) rfl rfl)) ?_; clear hF a; intro a hF
    refine wq_mvs (A := [_]) hF rfl ?_; clear hF a; intro a hF
    refine wq hF rfl rfl rfl (fun w_ hB_ => r_nilCheck (hF.ev rfl)) ?_; clear hF a; intro a hF
    refine wq hF rfl rfl rfl (fun w_ hB_ => r_field fo104_1 (hF.ev rfl)) ?_; clear hF a; intro a hF
    refine wq hF rfl rfl rfl (fun w_ hB_ => r_load1 sc3 (hF.ev rfl) ((hS.ext hB_).box (i := 0) rfl rfl)) ?_; clear hF a; intro a hF
    obtain ⟨g44, o44, m44, q44, hv44, hm44, hl44, hc44⟩ := Rd.atF (hbs) (a := a) (X := .tmp 43) (hF.ev rfl) (by omega) (by omega)
    refine wq hF rfl rfl rfl (fun w_ hB_ => r_index sl64 ((hF.ev rfl).trans hv44) (hF.ev rfl) (by omega) (by first | omega | (simp at hm44; omega))) ?_; clear hF a; intro a hF
    refine wq hF rfl rfl rfl (fun w_ hB_ => r_load1 sc5 (hF.ev rfl) (cellB (hS.ext hB_).old (hc44 0 _ rfl))) ?_; clear hF a; intro a hF
    refine wq hF rfl rfl rfl (fun w_ hB_ => r_convw iu5 iu3 (hF.ev rfl)) ?_; clear hF a; intro a hF
    refine wq hF rfl rfl rfl (fun w_ hB_ => r_add (hF.ev rfl) (hF.ev rfl)) ?_; clear hF a; intro a hF
    refine wq hF rfl rfl rfl (fun w_ hB_ => r_and (hF.ev rfl) ec) ?_; clear hF a; intro a hF
    refine wq_mvs (A := [_]) hF rfl ?_; clear hF a; intro a hF
    refine wpQuiet_nil ?_; intro w4 hB_; replace hS := hS.ext hB_; clear hB_
    refine hK6 _ _ ?_
    refine wp_region_lit ?_
    refine wl_mvs (A := [_, _]) hF rfl ?_; clear hF a; intro a hF
    refine wl hF rfl rfl rfl (r_nilCheck (hF.ev rfl)) ?_; clear hF a; intro a hF
    refine wl hF rfl rfl rfl (r_field fo104_1 (hF.ev rfl)) ?_; clear hF a; intro a hF
    refine wl hF rfl rfl rfl (r_load1 sc3 (hF.ev rfl) (hS.box (i := 0) rfl rfl)) ?_; clear hF a; intro a hF
    refine wl hF rfl rfl rfl (r_add (hF.ev rfl) ec) ?_; clear hF a; intro a hF
    refine wl hF rfl rfl rfl (r_nilCheck (hF.ev rfl)) ?_; clear hF a; intro a hF
    refine wl hF rfl rfl rfl (r_field fo104_1 (hF.ev rfl)) ?_; clear hF a; intro a hF
    refine wl_store hF hS (i := 0) rfl sz3 (hF.ev rfl) (hF.ev rfl) rfl rfl ?_; intro w5 hS_; replace hS := hS_; clear hS_; dsimp only [List.set, Nat.reduceAdd] at hS
    refine wl_nil (hK4 _ _ ?_)
    refine ws fun K7 hK7 => ?_
    refine wl_mvs (A := [_, _]) hF rfl ?_; clear hF a; intro a hF
    refine wl_nil (hK7 _ _ ?_)
    refine wp_ret ?_
    try simp only [Exit.then, Exit.inBlock, ↓reduceIte]
    refine ret1 rfl hF rfl ⟨⟨_, rfl, (and_low (n := 255) (by decide)).1, (and_low (n := 255) (by decide)).2⟩, ?_⟩
    exact hS.cur_close (by first | omega | (rw [w64_id (by omega) (by omega)]; omega))
  refine wp_skip ?_
  refine hK4 _ _ ?_
  refine ws fun K8 hK8 => ?_
  refine wl_mvs (A := [_, _]) hF rfl ?_; clear hF a; intro a hF
  refine wl_nil (hK8 _ _ ?_)
  refine wp_ret ?_
  try simp only [Exit.then, Exit.inBlock, ↓reduceIte]
  refine ret1 rfl hF rfl ⟨⟨_, rfl, (and_low (n := 255) (by decide)).1, (and_low (n := 255) (by decide)).2⟩, ?_⟩
  exact hS.cur_close (by first | omega | (rw [w64_id (by omega) (by omega)]; omega))

theorem l1Byte_c {W : World} {g : Nat} {vb : Value} {bs : List Int} (hbs : byteEK.Rd W vb bs) {l : List Res} {w : World} {q : Nat} (hS : Sep W l w) (hq : l[q]? = some (Cur g vb bs.length)) : Calls Try.prog 85 #[.pointer (some ⟨g, 0, none⟩)] w (Ret fun v w' => (∃ x : Int, v = vi x ∧ 0 ≤ x ∧ x ≤ 255) ∧ Sep W l w') :=
  draw_at (R := fun v => ∃ x : Int, v = vi x ∧ 0 ≤ x ∧ x ≤ 255) (fun _ _ h => l1Byte_h hbs h ) hS hq

set_option maxHeartbeats 4000000 in
set_option maxRecDepth 20000 in
theorem l1Below_h {W : World} {g : Nat} {vb : Value} {bs : List Int} (hbs : byteEK.Rd W vb bs) {l : List Res} {w : World} (hS : Sep W (Cur g vb bs.length :: l) w) (n : Int) : Calls Try.prog 68 #[.pointer (some ⟨g, 0, none⟩), vi n] w (Ret fun v w' => (∃ x : Int, v = vi x ∧ 0 ≤ x ∧ (x < n ∨ (n ≤ 0 ∧ x = 0))) ∧ Sep W (Cur g vb bs.length :: l) w') := by
  refine calls_fr Try.func68 rfl Try.ntmps68 rfl ?_
  intro a hF

  refine ws fun K1 hK1 => ?_
  refine wl_mvs (A := [_]) hF rfl ?_; clear hF a; intro a hF
  refine wl_nil (hK1 _ _ ?_)
  refine wp_seq_k fun K2 hK2 => ?_
  refine ws fun K3 hK3 => ?_
  refine wl_mvs (A := [_]) hF rfl ?_; clear hF a; intro a hF
  refine wl hF rfl rfl rfl (r_leq (hF.ev rfl) ec) ?_; clear hF a; intro a hF
  refine wl_nil (hK3 _ _ ?_)
  refine wc_fx (t := 10) hF rfl ?_ ?_ <;> clear hF <;> intro c10 hF <;> try simp only [zb1, zb2, zb3, zb4, zb5, zb6, zb7, zb8] at c10
  ·
    refine ws fun K4 hK4 => ?_
    refine wl_mvs (A := [_]) hF rfl ?_; clear hF a; intro a hF
    refine wl_nil (hK4 _ _ ?_)
    refine wp_ret ?_
    try simp only [Exit.then, Exit.inBlock, ↓reduceIte]
    first
      | exact ret1 rfl hF rfl ⟨⟨0, rfl, by omega, by omega⟩, hS⟩
      | exact ret1 rfl hF rfl ⟨⟨_, rfl, Int.tmod_nonneg _ (by omega), .inl (Int.tmod_lt_of_pos _ (by omega))⟩, hS⟩
      | exact ret1 rfl hF rfl ⟨⟨_, rfl, Int.tmod_nonneg _ (four_bytes h18 h20 h22 h24), .inl (Int.tmod_lt_of_pos _ (by omega))⟩, hS⟩
  refine wp_skip ?_
  refine hK2 _ _ ?_
  refine wp_seq_k fun K5 hK5 => ?_
  refine ws fun K6 hK6 => ?_
  refine wl_mvs (A := [_]) hF rfl ?_; clear hF a; intro a hF
  refine wl hF rfl rfl rfl (r_leq (hF.ev rfl) ec) ?_; clear hF a; intro a hF
  refine wl_nil (hK6 _ _ ?_)
  refine wc_fx (t := 12) hF rfl ?_ ?_ <;> clear hF <;> intro c12 hF <;> try simp only [zb1, zb2, zb3, zb4, zb5, zb6, zb7, zb8] at c12
  ·
    refine ws fun K7 hK7 => ?_
    refine wl_mvs (A := [_]) hF rfl ?_; clear hF a; intro a hF
    refine wl_call hF rfl rfl rfl (r_call1 en85 (hF.ev rfl)) (l1Byte_c hbs (q := 0) hS rfl) ?_; clear hF a; rintro v w1 a ⟨⟨x14, rfl, h14⟩, hS_⟩ hF; replace hS := hS_; clear hS_
    refine wl_mvs (A := [_]) hF rfl ?_; clear hF a; intro a hF
    refine wl hF rfl rfl rfl (r_rem (by first | decide | omega) (hF.ev rfl) (hF.ev rfl)) ?_; clear hF a; intro a hF
    refine wl_mvs (A := [_]) hF rfl ?_; clear hF a; intro a hF
    refine wl_nil (hK7 _ _ ?_)
    refine wp_ret ?_
    try simp only [Exit.then, Exit.inBlock, ↓reduceIte]
    first
      | exact ret1 rfl hF rfl ⟨⟨0, rfl, by omega, by omega⟩, hS⟩
      | exact ret1 rfl hF rfl ⟨⟨_, rfl, Int.tmod_nonneg _ (by omega), .inl (Int.tmod_lt_of_pos _ (by omega))⟩, hS⟩
      | exact ret1 rfl hF rfl ⟨⟨_, rfl, Int.tmod_nonneg _ (four_bytes h18 h20 h22 h24), .inl (Int.tmod_lt_of_pos _ (by omega))⟩, hS⟩
  refine wp_skip ?_
  refine hK5 _ _ ?_
  refine ws fun K8 hK8 => ?_
  refine wl_mvs (A := [_]) hF rfl ?_; clear hF a; intro a hF
  refine wl_call hF rfl rfl rfl (r_call1 en85 (hF.ev rfl)) (l1Byte_c hbs (q := 0) hS rfl) ?_; clear hF a; rintro v w2 a ⟨⟨x18, rfl, h18⟩, hS_⟩ hF; replace hS := hS_; clear hS_
  refine wl_mvs (A := [_]) hF rfl ?_; clear hF a; intro a hF
  refine wl_nil (hK8 _ _ ?_)
  refine ws fun K9 hK9 => ?_
  refine wl_mvs (A := [_]) hF rfl ?_; clear hF a; intro a hF
  refine wl_call hF rfl rfl rfl (r_call1 en85 (hF.ev rfl)) (l1Byte_c hbs (q := 0) hS rfl) ?_; clear hF a; rintro v w3 a ⟨⟨x20, rfl, h20⟩, hS_⟩ hF; replace hS := hS_; clear hS_
  refine wl_mvs (A := [_]) hF rfl ?_; clear hF a; intro a hF
  refine wl_nil (hK9 _ _ ?_)
  refine ws fun K10 hK10 => ?_
  refine wl_mvs (A := [_]) hF rfl ?_; clear hF a; intro a hF
  refine wl_call hF rfl rfl rfl (r_call1 en85 (hF.ev rfl)) (l1Byte_c hbs (q := 0) hS rfl) ?_; clear hF a; rintro v w4 a ⟨⟨x22, rfl, h22⟩, hS_⟩ hF; replace hS := hS_; clear hS_
  refine wl_mvs (A := [_]) hF rfl ?_; clear hF a; intro a hF
  refine wl_nil (hK10 _ _ ?_)
  refine ws fun K11 hK11 => ?_
  refine wl_mvs (A := [_]) hF rfl ?_; clear hF a; intro a hF
  refine wl_call hF rfl rfl rfl (r_call1 en85 (hF.ev rfl)) (l1Byte_c hbs (q := 0) hS rfl) ?_; clear hF a; rintro v w5 a ⟨⟨x24, rfl, h24⟩, hS_⟩ hF; replace hS := hS_; clear hS_
  refine wl_mvs (A := [_]) hF rfl ?_; clear hF a; intro a hF
  refine wl_nil (hK11 _ _ ?_)
  refine ws fun K12 hK12 => ?_
  refine wl_mvs (A := [_]) hF rfl ?_; clear hF a; intro a hF
  refine wl hF rfl rfl rfl (r_mul (hF.ev rfl) ec) ?_; clear hF a; intro a hF
  refine wl_mvs (A := [_]) hF rfl ?_; clear hF a; intro a hF
  refine wl hF rfl rfl rfl (r_mul (hF.ev rfl) ec) ?_; clear hF a; intro a hF
  refine wl hF rfl rfl rfl (r_add (hF.ev rfl) (hF.ev rfl)) ?_; clear hF a; intro a hF
  refine wl_mvs (A := [_]) hF rfl ?_; clear hF a; intro a hF
  refine wl hF rfl rfl rfl (r_mul (hF.ev rfl) ec) ?_; clear hF a; intro a hF
  refine wl hF rfl rfl rfl (r_add (hF.ev rfl) (hF.ev rfl)) ?_; clear hF a; intro a hF
  refine wl_mvs (A := [_]) hF rfl ?_; clear hF a; intro a hF
  refine wl hF rfl rfl rfl (r_add (hF.ev rfl) (hF.ev rfl)) ?_; clear hF a; intro a hF
  refine wl_mvs (A := [_]) hF rfl ?_; clear hF a; intro a hF
  refine wl hF rfl rfl rfl (r_rem (by first | decide | omega) (hF.ev rfl) (hF.ev rfl)) ?_; clear hF a; intro a hF
  refine wl_mvs (A := [_]) hF rfl ?_; clear hF a; intro a hF
  refine wl_nil (hK12 _ _ ?_)
  refine wp_ret ?_
  try simp only [Exit.then, Exit.inBlock, ↓reduceIte]
  first
    | exact ret1 rfl hF rfl ⟨⟨0, rfl, by omega, by omega⟩, hS⟩
    | exact ret1 rfl hF rfl ⟨⟨_, rfl, Int.tmod_nonneg _ (by omega), .inl (Int.tmod_lt_of_pos _ (by omega))⟩, hS⟩
    | exact ret1 rfl hF rfl ⟨⟨_, rfl, Int.tmod_nonneg _ (four_bytes h18 h20 h22 h24), .inl (Int.tmod_lt_of_pos _ (by omega))⟩, hS⟩

theorem l1Below_c {W : World} {g : Nat} {vb : Value} {bs : List Int} (hbs : byteEK.Rd W vb bs) {l : List Res} {w : World} {q : Nat} (n : Int) (hS : Sep W l w) (hq : l[q]? = some (Cur g vb bs.length)) : Calls Try.prog 68 #[.pointer (some ⟨g, 0, none⟩), vi n] w (Ret fun v w' => (∃ x : Int, v = vi x ∧ 0 ≤ x ∧ (x < n ∨ (n ≤ 0 ∧ x = 0))) ∧ Sep W l w') :=
  draw_at (R := fun v => ∃ x : Int, v = vi x ∧ 0 ≤ x ∧ (x < n ∨ (n ≤ 0 ∧ x = 0))) (fun _ _ h => l1Below_h hbs h n) hS hq

set_option maxHeartbeats 4000000 in
set_option maxRecDepth 20000 in
theorem l1Once_h {W : World} {g : Nat} {vb : Value} {bs : List Int} (hbs : byteEK.Rd W vb bs) {l : List Res} {w : World} (hS : Sep W (Cur g vb bs.length :: l) w) (n : Int) : Calls Try.prog 78 #[.pointer (some ⟨g, 0, none⟩), vi n] w (Ret fun v w' => (∃ b : Bool, v = .bool b) ∧ Sep W (Cur g vb bs.length :: l) w') := by
  refine calls_fr Try.func78 rfl Try.ntmps78 rfl ?_
  intro a hF

  refine ws fun K1 hK1 => ?_
  refine wl_mvs (A := [_]) hF rfl ?_; clear hF a; intro a hF
  refine wl_nil (hK1 _ _ ?_)
  refine ws fun K2 hK2 => ?_
  refine wl_mvs (A := [_, _]) hF rfl ?_; clear hF a; intro a hF
  refine wl_call hF rfl rfl rfl (r_call2 en68 (hF.ev rfl) (hF.ev rfl)) (l1Below_c hbs (q := 0) _ hS rfl) ?_; clear hF a; rintro v w1 a ⟨⟨x7, rfl, h7⟩, hS_⟩ hF; replace hS := hS_; clear hS_
  refine wl hF rfl rfl rfl (r_eql (hF.ev rfl) ec) ?_; clear hF a; intro a hF
  refine wl_mvs (A := [_]) hF rfl ?_; clear hF a; intro a hF
  refine wl_nil (hK2 _ _ ?_)
  refine wp_ret ?_
  try simp only [Exit.then, Exit.inBlock, ↓reduceIte]
  exact ret1 rfl hF rfl ⟨⟨_, rfl⟩, hS⟩

theorem l1Once_c {W : World} {g : Nat} {vb : Value} {bs : List Int} (hbs : byteEK.Rd W vb bs) {l : List Res} {w : World} {q : Nat} (n : Int) (hS : Sep W l w) (hq : l[q]? = some (Cur g vb bs.length)) : Calls Try.prog 78 #[.pointer (some ⟨g, 0, none⟩), vi n] w (Ret fun v w' => (∃ b : Bool, v = .bool b) ∧ Sep W l w') :=
  draw_at (R := fun v => ∃ b : Bool, v = .bool b) (fun _ _ h => l1Once_h hbs h n) hS hq

set_option maxHeartbeats 4000000 in
set_option maxRecDepth 20000 in
theorem l1PickInt_h {W : World} {g : Nat} {vb : Value} {bs : List Int} (hbs : byteEK.Rd W vb bs) {l : List Res} {w : World} {vx : Value} {xs : List Int} (hx : ∀ w, Sep W (Cur g vb bs.length :: l) w → intEK.Rd w vx xs) (h0 : 0 < xs.length) (hS : Sep W (Cur g vb bs.length :: l) w) : Calls Try.prog 83 #[.pointer (some ⟨g, 0, none⟩), vx] w (Ret fun v w' => (∃ x : Int, v = vi x ∧ x ∈ xs) ∧ Sep W (Cur g vb bs.length :: l) w') := by
  refine calls_fr Try.func83 rfl Try.ntmps83 rfl ?_
  intro a hF
  obtain ⟨A_x, q_x, rfl, hq_x, hn_x⟩ := (hx _ hS).sl; unfold maxLen at hn_x
  refine ws fun K1 hK1 => ?_
  refine wl_mvs (A := [_]) hF rfl ?_; clear hF a; intro a hF
  refine wl_nil (hK1 _ _ ?_)
  refine ws fun K2 hK2 => ?_
  refine wl_mvs (A := [_, _, _]) hF rfl ?_; clear hF a; intro a hF
  refine wl hF rfl rfl rfl (r_len ul24 (hF.ev rfl)) ?_; clear hF a; intro a hF
  refine wl_call hF rfl rfl rfl (r_call2 en68 (hF.ev rfl) (hF.ev rfl)) (l1Below_c hbs (q := 0) _ hS rfl) ?_; clear hF a; rintro v w1 a ⟨⟨x9, rfl, h9⟩, hS_⟩ hF; replace hS := hS_; clear hS_
  obtain ⟨g10, o10, m10, q10, hv10, hm10, hl10, hc10⟩ := Rd.atF ((hx _ hS)) (a := a) (X := .tmp 9) (hF.ev rfl) (by omega) (by omega)
  refine wl hF rfl rfl rfl (r_index sl24 ((hF.ev rfl).trans hv10) (hF.ev rfl) (by omega) (by first | omega | (simp at hm10; omega))) ?_; clear hF a; intro a hF
  refine wl hF rfl rfl rfl (r_load1 sc3 (hF.ev rfl) (hc10 0 _ rfl)) ?_; clear hF a; intro a hF
  refine wl_mvs (A := [_]) hF rfl ?_; clear hF a; intro a hF
  refine wl_nil (hK2 _ _ ?_)
  refine wp_ret ?_
  try simp only [Exit.then, Exit.inBlock, ↓reduceIte]
  exact ret1 rfl hF rfl ⟨⟨_, rfl, at0_mem (by omega) (by omega)⟩, hS⟩

theorem l1PickInt_c {W : World} {g : Nat} {vb : Value} {bs : List Int} (hbs : byteEK.Rd W vb bs) {l : List Res} {w : World} {q : Nat} {vx : Value} {xs : List Int} (hx : ∀ w, Sep W l w → intEK.Rd w vx xs) (h0 : 0 < xs.length) (hS : Sep W l w) (hq : l[q]? = some (Cur g vb bs.length)) : Calls Try.prog 83 #[.pointer (some ⟨g, 0, none⟩), vx] w (Ret fun v w' => (∃ x : Int, v = vi x ∧ x ∈ xs) ∧ Sep W l w') := by
  refine (l1PickInt_h hbs (fun w_ h_ => hx w_ (h_.unpull hq)) h0 (hS.pull hq)).mono ?_
  rintro e w' ⟨v, rfl, hr, h⟩
  exact ⟨v, rfl, hr, h.unpull hq⟩

set_option maxHeartbeats 4000000 in
set_option maxRecDepth 20000 in
theorem l3Config_h {W : World} {g : Nat} {vb : Value} {bs : List Int} (hbs : byteEK.Rd W vb bs) {l : List Res} {w : World} (hS : Sep W (Cur g vb bs.length :: l) w) : Calls Try.prog 82 #[.pointer (some ⟨g, 0, none⟩)] w (Ret fun v w' => (∃ c : Config, v = .agg c.enc.toArray ∧ c.ok) ∧ Sep W (Cur g vb bs.length :: l) w') := by
  refine calls_fr Try.func82 rfl Try.ntmps82 rfl ?_
  intro a hF

  refine ws fun K1 hK1 => ?_
  refine wl_alloc hF hS rfl zr38 ?_; clear hF a; intro g1 w1 a hS_ hB_ hF; replace hS := hS_; clear hS_ hB_
  refine wl_nil (hK1 _ _ ?_)
  refine ws fun K2 hK2 => ?_
  refine wl_mvs (A := [_]) hF rfl ?_; clear hF a; intro a hF
  refine wl_call hF rfl rfl rfl (r_call2 en68 (hF.ev rfl) ec) (l1Below_c hbs (q := 1) _ hS rfl) ?_; clear hF a; rintro v w2 a ⟨⟨x5, rfl, h5⟩, hS_⟩ hF; replace hS := hS_; clear hS_
  refine wl hF rfl rfl rfl (r_add ec (hF.ev rfl)) ?_; clear hF a; intro a hF
  refine wl_mvs (A := [_]) hF rfl ?_; clear hF a; intro a hF
  refine wl_call hF rfl rfl rfl (r_call2 en68 (hF.ev rfl) ec) (l1Below_c hbs (q := 1) _ hS rfl) ?_; clear hF a; rintro v w3 a ⟨⟨x8, rfl, h8⟩, hS_⟩ hF; replace hS := hS_; clear hS_
  refine wl hF rfl rfl rfl (r_add ec (hF.ev rfl)) ?_; clear hF a; intro a hF
  refine wl_mvs (A := [_]) hF rfl ?_; clear hF a; intro a hF
  refine wl_bslice intEK [vi 3, vi 6, vi 8, vi 12] [3, 6, 8, 12] rfl hF hS rfl mk24 rfl ⟨rfl, ec, rfl, ec, rfl, ec, rfl, ec, trivial⟩ rfl rfl rfl rfl ?_; clear hF a; intro gl_11 w4 a hS_ hF; replace hS := hS_; clear hS_
  refine wl_call hF rfl rfl rfl (r_call2 en83 (hF.ev rfl) (hF.ev rfl)) (l1PickInt_c hbs (q := 2) (fun w_ hS => (hS.own_rd (i := 0) rfl)) (by decide) hS rfl) ?_; clear hF a; rintro v w5 a ⟨⟨x12, rfl, h12⟩, hS_⟩ hF; replace hS := hS_; clear hS_
  refine wl_mvs (A := [_]) hF rfl ?_; clear hF a; intro a hF
  refine wl_call hF rfl rfl rfl (r_call2 en68 (hF.ev rfl) ec) (l1Below_c hbs (q := 2) _ hS rfl) ?_; clear hF a; rintro v w6 a ⟨⟨x14, rfl, h14⟩, hS_⟩ hF; replace hS := hS_; clear hS_
  refine wl hF rfl rfl rfl (r_add ec (hF.ev rfl)) ?_; clear hF a; intro a hF
  refine wl_mvs (A := [_]) hF rfl ?_; clear hF a; intro a hF
  refine wl_call hF rfl rfl rfl (r_call2 en68 (hF.ev rfl) ec) (l1Below_c hbs (q := 2) _ hS rfl) ?_; clear hF a; rintro v w7 a ⟨⟨x17, rfl, h17⟩, hS_⟩ hF; replace hS := hS_; clear hS_
  refine wl_mvs (A := [_]) hF rfl ?_; clear hF a; intro a hF
  refine wl_bslice intEK [vi 99, vi 99, vi 99, vi 4] [99, 99, 99, 4] rfl hF hS rfl mk24 rfl ⟨rfl, ec, rfl, ec, rfl, ec, rfl, ec, trivial⟩ rfl rfl rfl rfl ?_; clear hF a; intro gl_19 w8 a hS_ hF; replace hS := hS_; clear hS_
  refine wl_call hF rfl rfl rfl (r_call2 en83 (hF.ev rfl) (hF.ev rfl)) (l1PickInt_c hbs (q := 3) (fun w_ hS => (hS.own_rd (i := 0) rfl)) (by decide) hS rfl) ?_; clear hF a; rintro v w9 a ⟨⟨x20, rfl, h20⟩, hS_⟩ hF; replace hS := hS_; clear hS_
  refine wl hF rfl rfl rfl (r_build (bd38_0_1_2_3_4_5 _ _ _ _ _ _) ⟨rfl, (hF.ev rfl), rfl, (hF.ev rfl), rfl, (hF.ev rfl), rfl, (hF.ev rfl), rfl, (hF.ev rfl), rfl, (hF.ev rfl), trivial⟩) ?_; clear hF a; intro a hF
  refine wl_alloc hF hS rfl zr38 ?_; clear hF a; intro g2 w10 a hS_ hB_ hF; replace hS := hS_; clear hS_ hB_
  refine wl_storew hF hS (i := 0) rfl (hF.ev rfl) (hF.ev rfl) sz38 rfl rfl ?_; intro w11 hS_; replace hS := hS_; clear hS_; dsimp only [List.set, Nat.reduceAdd] at hS
  refine wl_nil (hK2 _ _ ?_)
  refine ws fun K3 hK3 => ?_
  refine wl hF rfl rfl rfl (r_loadn ag38 (hF.ev rfl) (hS.box_rd (i := 0) rfl) sz38) ?_; clear hF a; intro a hF
  refine wl_storew hF hS (i := 3) rfl (hF.ev rfl) (hF.ev rfl) sz38 rfl rfl ?_; intro w12 hS_; replace hS := hS_; clear hS_; dsimp only [List.set, Nat.reduceAdd] at hS
  refine wl_nil (hK3 _ _ ?_)
  refine wp_ret ?_
  try simp only [Exit.then, Exit.inBlock, ↓reduceIte]
  simp only [List.mem_cons, List.not_mem_nil, or_false] at h12 h20
  refine ret1c rfl ag38 hF hS (i := 3) rfl sz38 rfl ⟨⟨⟨IntKind.i64.wrap (1 + x5), IntKind.i64.wrap (1 + x8), x12, IntKind.i64.wrap (1 + x14), x17, x20⟩, rfl, ?_⟩, (Sep.headp (A := [_, _, _, _, _]) (B := [_]) hS [4] (by decide) rfl rfl)⟩
  rw [w64_id (q := 1 + x5) (by omega) (by omega), w64_id (q := 1 + x8) (by omega) (by omega), w64_id (q := 1 + x14) (by omega) (by omega)]
  unfold Config.ok; dsimp only; omega

theorem l3Config_c {W : World} {g : Nat} {vb : Value} {bs : List Int} (hbs : byteEK.Rd W vb bs) {l : List Res} {w : World} {q : Nat} (hS : Sep W l w) (hq : l[q]? = some (Cur g vb bs.length)) : Calls Try.prog 82 #[.pointer (some ⟨g, 0, none⟩)] w (Ret fun v w' => (∃ c : Config, v = .agg c.enc.toArray ∧ c.ok) ∧ Sep W l w') :=
  draw_at (R := fun v => ∃ c : Config, v = .agg c.enc.toArray ∧ c.ok) (fun _ _ h => l3Config_h hbs h ) hS hq

set_option maxHeartbeats 4000000 in
set_option maxRecDepth 20000 in
theorem l3Any_h {W : World} {g : Nat} {vb : Value} {bs : List Int} (hbs : byteEK.Rd W vb bs) {l : List Res} {w : World} (hS : Sep W (Cur g vb bs.length :: l) w) : Calls Try.prog 66 #[.pointer (some ⟨g, 0, none⟩)] w (Ret fun v w' => (∃ c : Config, v = .agg c.enc.toArray ∧ c.wf) ∧ Sep W (Cur g vb bs.length :: l) w') := by
  refine calls_fr Try.func66 rfl Try.ntmps66 rfl ?_
  intro a hF

  refine ws fun K1 hK1 => ?_
  refine wl_alloc hF hS rfl zr38 ?_; clear hF a; intro g1 w1 a hS_ hB_ hF; replace hS := hS_; clear hS_ hB_
  refine wl_nil (hK1 _ _ ?_)
  refine ws fun K2 hK2 => ?_
  refine wl_mvs (A := [_]) hF rfl ?_; clear hF a; intro a hF
  refine wl_call hF rfl rfl rfl (r_call1 en82 (hF.ev rfl)) (l3Config_c hbs (q := 1) hS rfl) ?_; clear hF a; rintro v w2 a ⟨⟨c5, rfl, h5⟩, hS_⟩ hF; replace hS := hS_; clear hS_
  refine wl_alloc hF hS rfl zr38 ?_; clear hF a; intro g2 w3 a hS_ hB_ hF; replace hS := hS_; clear hS_ hB_
  refine wl_storen (cs' := [_, _, _, _, _, _]) hF hS (i := 0) rfl (hF.ev rfl) (hF.ev rfl) sz38 ⟨rfl, rfl⟩ rfl rfl ?_; intro w4 hS_; replace hS := hS_; clear hS_; dsimp only [List.set] at hS
  refine wl_nil (hK2 _ _ ?_)
  refine wp_seq_k fun K3 hK3 => ?_
  refine ws fun K4 hK4 => ?_
  refine wl_mvs (A := [_]) hF rfl ?_; clear hF a; intro a hF
  refine wl_call hF rfl rfl rfl (r_call2 en68 (hF.ev rfl) ec) (l1Below_c hbs (q := 2) _ hS rfl) ?_; clear hF a; rintro v w5 a ⟨⟨x7, rfl, h7⟩, hS_⟩ hF; replace hS := hS_; clear hS_
  refine wl_nil (hK4 _ _ ?_)
  refine wp_block ?_
  refine ws fun K5 hK5 => ?_
  refine wl hF rfl rfl rfl (r_eql (hF.ev rfl) ec) ?_; clear hF a; intro a hF
  refine wl_mvs (A := [_]) hF rfl ?_; clear hF a; intro a hF
  refine wl_nil (hK5 _ _ ?_)
  refine wc_fx (t := 8) hF rfl ?_ ?_ <;> clear hF <;> intro c8 hF <;> try simp only [zb1, zb2, zb3, zb4, zb5, zb6, zb7, zb8] at c8
  ·
    refine wp_region_lit ?_
    refine wl_mvs (A := [_]) hF rfl ?_; clear hF a; intro a hF
    refine wl_bslice intEK [vi 0, vi 4, vi 5] [0, 4, 5] rfl hF hS rfl mk24 rfl ⟨rfl, ec, rfl, ec, rfl, ec, trivial⟩ rfl rfl rfl rfl ?_; clear hF a; intro gl_11 w6 a hS_ hF; replace hS := hS_; clear hS_
    refine wl_call hF rfl rfl rfl (r_call2 en83 (hF.ev rfl) (hF.ev rfl)) (l1PickInt_c hbs (q := 3) (fun w_ hS => (hS.own_rd (i := 0) rfl)) (by decide) hS rfl) ?_; clear hF a; rintro v w7 a ⟨⟨x12, rfl, h12⟩, hS_⟩ hF; replace hS := hS_; clear hS_
    refine wl hF rfl rfl rfl (r_field fo38_0 (hF.ev rfl)) ?_; clear hF a; intro a hF
    refine wl_store hF hS (i := 1) rfl sz3 (hF.ev rfl) (hF.ev rfl) rfl rfl ?_; intro w8 hS_; replace hS := hS_; clear hS_; dsimp only [List.set, Nat.reduceAdd] at hS
    refine wl_nil ?_
    simp only [Exit.then, Exit.inBlock, ↓reduceIte]
    refine hK3 _ _ ?_
    refine ws fun K6 hK6 => ?_
    refine wl hF rfl rfl rfl (r_loadn ag38 (hF.ev rfl) (hS.box_rd (i := 1) rfl) sz38) ?_; clear hF a; intro a hF
    refine wl_storew hF hS (i := 2) rfl (hF.ev rfl) (hF.ev rfl) sz38 rfl rfl ?_; intro w9 hS_; replace hS := hS_; clear hS_; dsimp only [List.set, Nat.reduceAdd] at hS
    refine wl_nil (hK6 _ _ ?_)
    refine wp_ret ?_
    try simp only [Exit.then, Exit.inBlock, ↓reduceIte]
    unfold Config.ok at h5
    refine ret1c rfl ag38 hF hS (i := 2) rfl sz38 rfl ⟨⟨⟨x12, c5.keys, c5.capacity, c5.batch, c5.policy, c5.clockMax⟩, rfl, ?_⟩, (Sep.headp (A := [_, _, _, _]) (B := [_]) hS [3] (by decide) rfl rfl)⟩
    unfold Config.wf int64; dsimp only
    simp only [List.mem_cons, List.not_mem_nil, or_false] at h12
    omega
  refine ws fun K7 hK7 => ?_
  refine wl hF rfl rfl rfl (r_eql (hF.ev rfl) ec) ?_; clear hF a; intro a hF
  refine wl_mvs (A := [_]) hF rfl ?_; clear hF a; intro a hF
  refine wl_nil (hK7 _ _ ?_)
  refine wc_fx (t := 14) hF rfl ?_ ?_ <;> clear hF <;> intro c14 hF <;> try simp only [zb1, zb2, zb3, zb4, zb5, zb6, zb7, zb8] at c14
  ·
    refine wp_region_lit ?_
    refine wl_mvs (A := [_]) hF rfl ?_; clear hF a; intro a hF
    refine wl_bslice intEK [vi 0, vi 4, vi 5] [0, 4, 5] rfl hF hS rfl mk24 rfl ⟨rfl, ec, rfl, ec, rfl, ec, trivial⟩ rfl rfl rfl rfl ?_; clear hF a; intro gl_17 w10 a hS_ hF; replace hS := hS_; clear hS_
    refine wl_call hF rfl rfl rfl (r_call2 en83 (hF.ev rfl) (hF.ev rfl)) (l1PickInt_c hbs (q := 3) (fun w_ hS => (hS.own_rd (i := 0) rfl)) (by decide) hS rfl) ?_; clear hF a; rintro v w11 a ⟨⟨x18, rfl, h18⟩, hS_⟩ hF; replace hS := hS_; clear hS_
    refine wl hF rfl rfl rfl (r_field fo38_1 (hF.ev rfl)) ?_; clear hF a; intro a hF
    refine wl_store hF hS (i := 1) rfl sz3 (hF.ev rfl) (hF.ev rfl) rfl rfl ?_; intro w12 hS_; replace hS := hS_; clear hS_; dsimp only [List.set, Nat.reduceAdd] at hS
    refine wl_nil ?_
    simp only [Exit.then, Exit.inBlock, ↓reduceIte]
    refine hK3 _ _ ?_
    refine ws fun K8 hK8 => ?_
    refine wl hF rfl rfl rfl (r_loadn ag38 (hF.ev rfl) (hS.box_rd (i := 1) rfl) sz38) ?_; clear hF a; intro a hF
    refine wl_storew hF hS (i := 2) rfl (hF.ev rfl) (hF.ev rfl) sz38 rfl rfl ?_; intro w13 hS_; replace hS := hS_; clear hS_; dsimp only [List.set, Nat.reduceAdd] at hS
    refine wl_nil (hK8 _ _ ?_)
    refine wp_ret ?_
    try simp only [Exit.then, Exit.inBlock, ↓reduceIte]
    unfold Config.ok at h5
    refine ret1c rfl ag38 hF hS (i := 2) rfl sz38 rfl ⟨⟨⟨c5.threads, x18, c5.capacity, c5.batch, c5.policy, c5.clockMax⟩, rfl, ?_⟩, (Sep.headp (A := [_, _, _, _]) (B := [_]) hS [3] (by decide) rfl rfl)⟩
    unfold Config.wf int64; dsimp only
    simp only [List.mem_cons, List.not_mem_nil, or_false] at h18
    omega
  refine ws fun K9 hK9 => ?_
  refine wl hF rfl rfl rfl (r_eql (hF.ev rfl) ec) ?_; clear hF a; intro a hF
  refine wl_mvs (A := [_]) hF rfl ?_; clear hF a; intro a hF
  refine wl_nil (hK9 _ _ ?_)
  refine wc_fx (t := 20) hF rfl ?_ ?_ <;> clear hF <;> intro c20 hF <;> try simp only [zb1, zb2, zb3, zb4, zb5, zb6, zb7, zb8] at c20
  ·
    refine wp_region_lit ?_
    refine wl_mvs (A := [_]) hF rfl ?_; clear hF a; intro a hF
    refine wl_bslice intEK [vi 0, vi 1, vi 24, vi 25] [0, 1, 24, 25] rfl hF hS rfl mk24 rfl ⟨rfl, ec, rfl, ec, rfl, ec, rfl, ec, trivial⟩ rfl rfl rfl rfl ?_; clear hF a; intro gl_23 w14 a hS_ hF; replace hS := hS_; clear hS_
    refine wl_call hF rfl rfl rfl (r_call2 en83 (hF.ev rfl) (hF.ev rfl)) (l1PickInt_c hbs (q := 3) (fun w_ hS => (hS.own_rd (i := 0) rfl)) (by decide) hS rfl) ?_; clear hF a; rintro v w15 a ⟨⟨x24, rfl, h24⟩, hS_⟩ hF; replace hS := hS_; clear hS_
    refine wl hF rfl rfl rfl (r_field fo38_2 (hF.ev rfl)) ?_; clear hF a; intro a hF
    refine wl_store hF hS (i := 1) rfl sz3 (hF.ev rfl) (hF.ev rfl) rfl rfl ?_; intro w16 hS_; replace hS := hS_; clear hS_; dsimp only [List.set, Nat.reduceAdd] at hS
    refine wl_nil ?_
    simp only [Exit.then, Exit.inBlock, ↓reduceIte]
    refine hK3 _ _ ?_
    refine ws fun K10 hK10 => ?_
    refine wl hF rfl rfl rfl (r_loadn ag38 (hF.ev rfl) (hS.box_rd (i := 1) rfl) sz38) ?_; clear hF a; intro a hF
    refine wl_storew hF hS (i := 2) rfl (hF.ev rfl) (hF.ev rfl) sz38 rfl rfl ?_; intro w17 hS_; replace hS := hS_; clear hS_; dsimp only [List.set, Nat.reduceAdd] at hS
    refine wl_nil (hK10 _ _ ?_)
    refine wp_ret ?_
    try simp only [Exit.then, Exit.inBlock, ↓reduceIte]
    unfold Config.ok at h5
    refine ret1c rfl ag38 hF hS (i := 2) rfl sz38 rfl ⟨⟨⟨c5.threads, c5.keys, x24, c5.batch, c5.policy, c5.clockMax⟩, rfl, ?_⟩, (Sep.headp (A := [_, _, _, _]) (B := [_]) hS [3] (by decide) rfl rfl)⟩
    unfold Config.wf int64; dsimp only
    simp only [List.mem_cons, List.not_mem_nil, or_false] at h24
    omega
  refine ws fun K11 hK11 => ?_
  refine wl hF rfl rfl rfl (r_eql (hF.ev rfl) ec) ?_; clear hF a; intro a hF
  refine wl_mvs (A := [_]) hF rfl ?_; clear hF a; intro a hF
  refine wl_nil (hK11 _ _ ?_)
  refine wc_fx (t := 26) hF rfl ?_ ?_ <;> clear hF <;> intro c26 hF <;> try simp only [zb1, zb2, zb3, zb4, zb5, zb6, zb7, zb8] at c26
  ·
    refine wp_region_lit ?_
    refine wl_mvs (A := [_]) hF rfl ?_; clear hF a; intro a hF
    refine wl_bslice intEK [vi 0, vi 4, vi 5] [0, 4, 5] rfl hF hS rfl mk24 rfl ⟨rfl, ec, rfl, ec, rfl, ec, trivial⟩ rfl rfl rfl rfl ?_; clear hF a; intro gl_29 w18 a hS_ hF; replace hS := hS_; clear hS_
    refine wl_call hF rfl rfl rfl (r_call2 en83 (hF.ev rfl) (hF.ev rfl)) (l1PickInt_c hbs (q := 3) (fun w_ hS => (hS.own_rd (i := 0) rfl)) (by decide) hS rfl) ?_; clear hF a; rintro v w19 a ⟨⟨x30, rfl, h30⟩, hS_⟩ hF; replace hS := hS_; clear hS_
    refine wl hF rfl rfl rfl (r_field fo38_3 (hF.ev rfl)) ?_; clear hF a; intro a hF
    refine wl_store hF hS (i := 1) rfl sz3 (hF.ev rfl) (hF.ev rfl) rfl rfl ?_; intro w20 hS_; replace hS := hS_; clear hS_; dsimp only [List.set, Nat.reduceAdd] at hS
    refine wl_nil ?_
    simp only [Exit.then, Exit.inBlock, ↓reduceIte]
    refine hK3 _ _ ?_
    refine ws fun K12 hK12 => ?_
    refine wl hF rfl rfl rfl (r_loadn ag38 (hF.ev rfl) (hS.box_rd (i := 1) rfl) sz38) ?_; clear hF a; intro a hF
    refine wl_storew hF hS (i := 2) rfl (hF.ev rfl) (hF.ev rfl) sz38 rfl rfl ?_; intro w21 hS_; replace hS := hS_; clear hS_; dsimp only [List.set, Nat.reduceAdd] at hS
    refine wl_nil (hK12 _ _ ?_)
    refine wp_ret ?_
    try simp only [Exit.then, Exit.inBlock, ↓reduceIte]
    unfold Config.ok at h5
    refine ret1c rfl ag38 hF hS (i := 2) rfl sz38 rfl ⟨⟨⟨c5.threads, c5.keys, c5.capacity, x30, c5.policy, c5.clockMax⟩, rfl, ?_⟩, (Sep.headp (A := [_, _, _, _]) (B := [_]) hS [3] (by decide) rfl rfl)⟩
    unfold Config.wf int64; dsimp only
    simp only [List.mem_cons, List.not_mem_nil, or_false] at h30
    omega
  refine ws fun K13 hK13 => ?_
  refine wl hF rfl rfl rfl (r_eql (hF.ev rfl) ec) ?_; clear hF a; intro a hF
  refine wl_mvs (A := [_]) hF rfl ?_; clear hF a; intro a hF
  refine wl_nil (hK13 _ _ ?_)
  refine wc_fx (t := 32) hF rfl ?_ ?_ <;> clear hF <;> intro c32 hF <;> try simp only [zb1, zb2, zb3, zb4, zb5, zb6, zb7, zb8] at c32
  ·
    refine wp_region_lit ?_
    refine wl_mvs (A := [_]) hF rfl ?_; clear hF a; intro a hF
    refine wl_bslice intEK [vi (-1), vi 3] [-1, 3] rfl hF hS rfl mk24 rfl ⟨rfl, ec, rfl, ec, trivial⟩ rfl rfl rfl rfl ?_; clear hF a; intro gl_35 w22 a hS_ hF; replace hS := hS_; clear hS_
    refine wl_call hF rfl rfl rfl (r_call2 en83 (hF.ev rfl) (hF.ev rfl)) (l1PickInt_c hbs (q := 3) (fun w_ hS => (hS.own_rd (i := 0) rfl)) (by decide) hS rfl) ?_; clear hF a; rintro v w23 a ⟨⟨x36, rfl, h36⟩, hS_⟩ hF; replace hS := hS_; clear hS_
    refine wl hF rfl rfl rfl (r_field fo38_4 (hF.ev rfl)) ?_; clear hF a; intro a hF
    refine wl_store hF hS (i := 1) rfl sz3 (hF.ev rfl) (hF.ev rfl) rfl rfl ?_; intro w24 hS_; replace hS := hS_; clear hS_; dsimp only [List.set, Nat.reduceAdd] at hS
    refine wl_nil ?_
    simp only [Exit.then, Exit.inBlock, ↓reduceIte]
    refine hK3 _ _ ?_
    refine ws fun K14 hK14 => ?_
    refine wl hF rfl rfl rfl (r_loadn ag38 (hF.ev rfl) (hS.box_rd (i := 1) rfl) sz38) ?_; clear hF a; intro a hF
    refine wl_storew hF hS (i := 2) rfl (hF.ev rfl) (hF.ev rfl) sz38 rfl rfl ?_; intro w25 hS_; replace hS := hS_; clear hS_; dsimp only [List.set, Nat.reduceAdd] at hS
    refine wl_nil (hK14 _ _ ?_)
    refine wp_ret ?_
    try simp only [Exit.then, Exit.inBlock, ↓reduceIte]
    unfold Config.ok at h5
    refine ret1c rfl ag38 hF hS (i := 2) rfl sz38 rfl ⟨⟨⟨c5.threads, c5.keys, c5.capacity, c5.batch, x36, c5.clockMax⟩, rfl, ?_⟩, (Sep.headp (A := [_, _, _, _]) (B := [_]) hS [3] (by decide) rfl rfl)⟩
    unfold Config.wf int64; dsimp only
    simp only [List.mem_cons, List.not_mem_nil, or_false] at h36
    omega
  refine ws fun K15 hK15 => ?_
  refine wl hF rfl rfl rfl (r_eql (hF.ev rfl) ec) ?_; clear hF a; intro a hF
  refine wl_mvs (A := [_]) hF rfl ?_; clear hF a; intro a hF
  refine wl_nil (hK15 _ _ ?_)
  refine wc_fx (t := 38) hF rfl ?_ ?_ <;> clear hF <;> intro c38 hF <;> try simp only [zb1, zb2, zb3, zb4, zb5, zb6, zb7, zb8] at c38
  ·
    refine wp_region_lit ?_
    refine wl_mvs (A := [_]) hF rfl ?_; clear hF a; intro a hF
    refine wl_bslice intEK [vi 0, vi 1, vi 100] [0, 1, 100] rfl hF hS rfl mk24 rfl ⟨rfl, ec, rfl, ec, rfl, ec, trivial⟩ rfl rfl rfl rfl ?_; clear hF a; intro gl_41 w26 a hS_ hF; replace hS := hS_; clear hS_
    refine wl_call hF rfl rfl rfl (r_call2 en83 (hF.ev rfl) (hF.ev rfl)) (l1PickInt_c hbs (q := 3) (fun w_ hS => (hS.own_rd (i := 0) rfl)) (by decide) hS rfl) ?_; clear hF a; rintro v w27 a ⟨⟨x42, rfl, h42⟩, hS_⟩ hF; replace hS := hS_; clear hS_
    refine wl hF rfl rfl rfl (r_field fo38_5 (hF.ev rfl)) ?_; clear hF a; intro a hF
    refine wl_store hF hS (i := 1) rfl sz3 (hF.ev rfl) (hF.ev rfl) rfl rfl ?_; intro w28 hS_; replace hS := hS_; clear hS_; dsimp only [List.set, Nat.reduceAdd] at hS
    refine wl_nil ?_
    simp only [Exit.then, Exit.inBlock, ↓reduceIte]
    refine hK3 _ _ ?_
    refine ws fun K16 hK16 => ?_
    refine wl hF rfl rfl rfl (r_loadn ag38 (hF.ev rfl) (hS.box_rd (i := 1) rfl) sz38) ?_; clear hF a; intro a hF
    refine wl_storew hF hS (i := 2) rfl (hF.ev rfl) (hF.ev rfl) sz38 rfl rfl ?_; intro w29 hS_; replace hS := hS_; clear hS_; dsimp only [List.set, Nat.reduceAdd] at hS
    refine wl_nil (hK16 _ _ ?_)
    refine wp_ret ?_
    try simp only [Exit.then, Exit.inBlock, ↓reduceIte]
    unfold Config.ok at h5
    refine ret1c rfl ag38 hF hS (i := 2) rfl sz38 rfl ⟨⟨⟨c5.threads, c5.keys, c5.capacity, c5.batch, c5.policy, x42⟩, rfl, ?_⟩, (Sep.headp (A := [_, _, _, _]) (B := [_]) hS [3] (by decide) rfl rfl)⟩
    unfold Config.wf int64; dsimp only
    simp only [List.mem_cons, List.not_mem_nil, or_false] at h42
    omega
  refine wp_skip ?_
  simp only [Exit.then, Exit.inBlock, ↓reduceIte]
  refine hK3 _ _ ?_
  refine ws fun K17 hK17 => ?_
  refine wl hF rfl rfl rfl (r_loadn ag38 (hF.ev rfl) (hS.box_rd (i := 0) rfl) sz38) ?_; clear hF a; intro a hF
  refine wl_storew hF hS (i := 1) rfl (hF.ev rfl) (hF.ev rfl) sz38 rfl rfl ?_; intro w30 hS_; replace hS := hS_; clear hS_; dsimp only [List.set, Nat.reduceAdd] at hS
  refine wl_nil (hK17 _ _ ?_)
  refine wp_ret ?_
  try simp only [Exit.then, Exit.inBlock, ↓reduceIte]
  unfold Config.ok at h5
  refine ret1c rfl ag38 hF hS (i := 1) rfl sz38 rfl ⟨⟨⟨c5.threads, c5.keys, c5.capacity, c5.batch, c5.policy, c5.clockMax⟩, rfl, ?_⟩, (Sep.headp (A := [_, _, _]) (B := [_]) hS [2] (by decide) rfl rfl)⟩
  unfold Config.wf int64; dsimp only
  omega

theorem l3Any_c {W : World} {g : Nat} {vb : Value} {bs : List Int} (hbs : byteEK.Rd W vb bs) {l : List Res} {w : World} {q : Nat} (hS : Sep W l w) (hq : l[q]? = some (Cur g vb bs.length)) : Calls Try.prog 66 #[.pointer (some ⟨g, 0, none⟩)] w (Ret fun v w' => (∃ c : Config, v = .agg c.enc.toArray ∧ c.wf) ∧ Sep W l w') :=
  draw_at (R := fun v => ∃ c : Config, v = .agg c.enc.toArray ∧ c.wf) (fun _ _ h => l3Any_h hbs h ) hS hq

set_option maxHeartbeats 4000000 in
set_option maxRecDepth 20000 in
theorem l5Op_h {W : World} {g : Nat} {vb : Value} {bs : List Int} (hbs : byteEK.Rd W vb bs) {l : List Res} {w : World} (hS : Sep W (Cur g vb bs.length :: l) w) {n : Int} (hn : n ≤ 10) : Calls Try.prog 84 #[.pointer (some ⟨g, 0, none⟩), vi n] w (Ret fun v w' => (∃ o : Sl.Op, v = .agg o.enc.toArray ∧ o.ok) ∧ Sep W (Cur g vb bs.length :: l) w') := by
  refine calls_fr Try.func84 rfl Try.ntmps84 rfl ?_
  intro a hF

  refine ws fun K1 hK1 => ?_
  refine wl_alloc hF hS rfl zr41 ?_; clear hF a; intro g1 w1 a hS_ hB_ hF; replace hS := hS_; clear hS_ hB_
  refine wl_nil (hK1 _ _ ?_)
  refine wp_seq_k fun K2 hK2 => ?_
  refine ws fun K3 hK3 => ?_
  refine wl_mvs (A := [_]) hF rfl ?_; clear hF a; intro a hF
  refine wl_call hF rfl rfl rfl (r_call2 en68 (hF.ev rfl) ec) (l1Below_c hbs (q := 1) _ hS rfl) ?_; clear hF a; rintro v w2 a ⟨⟨x6, rfl, h6⟩, hS_⟩ hF; replace hS := hS_; clear hS_
  refine wl_nil (hK3 _ _ ?_)
  refine wp_block ?_
  refine wp_seq_k fun K4 hK4 => ?_
  refine ws fun K5 hK5 => ?_
  refine wl hF rfl rfl rfl (r_eql (hF.ev rfl) ec) ?_; clear hF a; intro a hF
  refine wl_mvs (A := [_]) hF rfl ?_; clear hF a; intro a hF
  refine wl_nil (hK5 _ _ ?_)
  refine wc_fx (t := 7) hF rfl ?_ ?_ <;> clear hF <;> intro c7 hF <;> try simp only [zb1, zb2, zb3, zb4, zb5, zb6, zb7, zb8] at c7
  ·
    refine wp_skip ?_
    refine hK4 _ _ ?_
    refine wc_true (hF.ev rfl) ?_
    refine ws fun K6 hK6 => ?_
    refine wl hF rfl rfl rfl (r_build (bd41_0 _) ⟨rfl, ec, trivial⟩) ?_; clear hF a; intro a hF
    refine wl_storew hF hS (i := 0) rfl (hF.ev rfl) (hF.ev rfl) sz41 rfl rfl ?_; intro w3 hS_; replace hS := hS_; clear hS_; dsimp only [List.set, Nat.reduceAdd] at hS
    refine wl_nil (hK6 _ _ ?_)
    refine wp_ret ?_
    try simp only [Exit.then, Exit.inBlock, ↓reduceIte]
    refine ret1c rfl ag41 hF hS (i := 0) rfl sz41 rfl ⟨⟨⟨_, _, _⟩, rfl, ?_⟩, (Sep.headp (A := [_, _]) (B := [_]) hS [1] (by decide) rfl rfl)⟩
    unfold Sl.Op.ok; dsimp only; omega
  refine wp_region_lit ?_
  refine wl hF rfl rfl rfl (r_eql (hF.ev rfl) ec) ?_; clear hF a; intro a hF
  refine wl_mvs (A := [_]) hF rfl ?_; clear hF a; intro a hF
  refine wl_nil (hK4 _ _ ?_)
  refine wc_fx (t := 7) hF rfl ?_ ?_ <;> clear hF <;> intro c7 hF <;> try simp only [zb1, zb2, zb3, zb4, zb5, zb6, zb7, zb8] at c7
  ·
    refine ws fun K7 hK7 => ?_
    refine wl hF rfl rfl rfl (r_build (bd41_0 _) ⟨rfl, ec, trivial⟩) ?_; clear hF a; intro a hF
    refine wl_storew hF hS (i := 0) rfl (hF.ev rfl) (hF.ev rfl) sz41 rfl rfl ?_; intro w4 hS_; replace hS := hS_; clear hS_; dsimp only [List.set, Nat.reduceAdd] at hS
    refine wl_nil (hK7 _ _ ?_)
    refine wp_ret ?_
    try simp only [Exit.then, Exit.inBlock, ↓reduceIte]
    refine ret1c rfl ag41 hF hS (i := 0) rfl sz41 rfl ⟨⟨⟨_, _, _⟩, rfl, ?_⟩, (Sep.headp (A := [_, _]) (B := [_]) hS [1] (by decide) rfl rfl)⟩
    unfold Sl.Op.ok; dsimp only; omega
  refine wp_seq_k fun K8 hK8 => ?_
  refine ws fun K9 hK9 => ?_
  refine wl hF rfl rfl rfl (r_eql (hF.ev rfl) ec) ?_; clear hF a; intro a hF
  refine wl_mvs (A := [_]) hF rfl ?_; clear hF a; intro a hF
  refine wl_nil (hK9 _ _ ?_)
  refine wc_fx (t := 11) hF rfl ?_ ?_ <;> clear hF <;> intro c11 hF <;> try simp only [zb1, zb2, zb3, zb4, zb5, zb6, zb7, zb8] at c11
  ·
    refine wp_skip ?_
    refine hK8 _ _ ?_
    refine wc_true (hF.ev rfl) ?_
    refine ws fun K10 hK10 => ?_
    refine wl_mvs (A := [_, _]) hF rfl ?_; clear hF a; intro a hF
    refine wl_call hF rfl rfl rfl (r_call2 en68 (hF.ev rfl) (hF.ev rfl)) (l1Below_c hbs (q := 1) _ hS rfl) ?_; clear hF a; rintro v w5 a ⟨⟨x17, rfl, h17⟩, hS_⟩ hF; replace hS := hS_; clear hS_
    refine wl hF rfl rfl rfl (r_build (bd41_0_1 _ _) ⟨rfl, ec, rfl, (hF.ev rfl), trivial⟩) ?_; clear hF a; intro a hF
    refine wl_storew hF hS (i := 0) rfl (hF.ev rfl) (hF.ev rfl) sz41 rfl rfl ?_; intro w6 hS_; replace hS := hS_; clear hS_; dsimp only [List.set, Nat.reduceAdd] at hS
    refine wl_nil (hK10 _ _ ?_)
    refine wp_ret ?_
    try simp only [Exit.then, Exit.inBlock, ↓reduceIte]
    refine ret1c rfl ag41 hF hS (i := 0) rfl sz41 rfl ⟨⟨⟨_, _, _⟩, rfl, ?_⟩, (Sep.headp (A := [_, _]) (B := [_]) hS [1] (by decide) rfl rfl)⟩
    unfold Sl.Op.ok; dsimp only; omega
  refine ws fun K11 hK11 => ?_
  refine wl hF rfl rfl rfl (r_eql (hF.ev rfl) ec) ?_; clear hF a; intro a hF
  refine wl_mvs (A := [_]) hF rfl ?_; clear hF a; intro a hF
  refine wl_nil (hK11 _ _ ?_)
  refine wc_fx (t := 11) hF rfl ?_ ?_ <;> clear hF <;> intro c11 hF <;> try simp only [zb1, zb2, zb3, zb4, zb5, zb6, zb7, zb8] at c11
  ·
    refine wp_skip ?_
    refine hK8 _ _ ?_
    refine wc_true (hF.ev rfl) ?_
    refine ws fun K12 hK12 => ?_
    refine wl_mvs (A := [_, _]) hF rfl ?_; clear hF a; intro a hF
    refine wl_call hF rfl rfl rfl (r_call2 en68 (hF.ev rfl) (hF.ev rfl)) (l1Below_c hbs (q := 1) _ hS rfl) ?_; clear hF a; rintro v w7 a ⟨⟨x17, rfl, h17⟩, hS_⟩ hF; replace hS := hS_; clear hS_
    refine wl hF rfl rfl rfl (r_build (bd41_0_1 _ _) ⟨rfl, ec, rfl, (hF.ev rfl), trivial⟩) ?_; clear hF a; intro a hF
    refine wl_storew hF hS (i := 0) rfl (hF.ev rfl) (hF.ev rfl) sz41 rfl rfl ?_; intro w8 hS_; replace hS := hS_; clear hS_; dsimp only [List.set, Nat.reduceAdd] at hS
    refine wl_nil (hK12 _ _ ?_)
    refine wp_ret ?_
    try simp only [Exit.then, Exit.inBlock, ↓reduceIte]
    refine ret1c rfl ag41 hF hS (i := 0) rfl sz41 rfl ⟨⟨⟨_, _, _⟩, rfl, ?_⟩, (Sep.headp (A := [_, _]) (B := [_]) hS [1] (by decide) rfl rfl)⟩
    unfold Sl.Op.ok; dsimp only; omega
  refine wp_region_lit ?_
  refine wl hF rfl rfl rfl (r_eql (hF.ev rfl) ec) ?_; clear hF a; intro a hF
  refine wl_mvs (A := [_]) hF rfl ?_; clear hF a; intro a hF
  refine wl_nil (hK8 _ _ ?_)
  refine wc_fx (t := 11) hF rfl ?_ ?_ <;> clear hF <;> intro c11 hF <;> try simp only [zb1, zb2, zb3, zb4, zb5, zb6, zb7, zb8] at c11
  ·
    refine ws fun K13 hK13 => ?_
    refine wl_mvs (A := [_, _]) hF rfl ?_; clear hF a; intro a hF
    refine wl_call hF rfl rfl rfl (r_call2 en68 (hF.ev rfl) (hF.ev rfl)) (l1Below_c hbs (q := 1) _ hS rfl) ?_; clear hF a; rintro v w9 a ⟨⟨x17, rfl, h17⟩, hS_⟩ hF; replace hS := hS_; clear hS_
    refine wl hF rfl rfl rfl (r_build (bd41_0_1 _ _) ⟨rfl, ec, rfl, (hF.ev rfl), trivial⟩) ?_; clear hF a; intro a hF
    refine wl_storew hF hS (i := 0) rfl (hF.ev rfl) (hF.ev rfl) sz41 rfl rfl ?_; intro w10 hS_; replace hS := hS_; clear hS_; dsimp only [List.set, Nat.reduceAdd] at hS
    refine wl_nil (hK13 _ _ ?_)
    refine wp_ret ?_
    try simp only [Exit.then, Exit.inBlock, ↓reduceIte]
    refine ret1c rfl ag41 hF hS (i := 0) rfl sz41 rfl ⟨⟨⟨_, _, _⟩, rfl, ?_⟩, (Sep.headp (A := [_, _]) (B := [_]) hS [1] (by decide) rfl rfl)⟩
    unfold Sl.Op.ok; dsimp only; omega
  refine ws fun K14 hK14 => ?_
  refine wl hF rfl rfl rfl (r_eql (hF.ev rfl) ec) ?_; clear hF a; intro a hF
  refine wl_mvs (A := [_]) hF rfl ?_; clear hF a; intro a hF
  refine wl_nil (hK14 _ _ ?_)
  refine wc_fx (t := 19) hF rfl ?_ ?_ <;> clear hF <;> intro c19 hF <;> try simp only [zb1, zb2, zb3, zb4, zb5, zb6, zb7, zb8] at c19
  ·
    refine ws fun K15 hK15 => ?_
    refine wl hF rfl rfl rfl (r_build (bd41_0 _) ⟨rfl, ec, trivial⟩) ?_; clear hF a; intro a hF
    refine wl_storew hF hS (i := 0) rfl (hF.ev rfl) (hF.ev rfl) sz41 rfl rfl ?_; intro w11 hS_; replace hS := hS_; clear hS_; dsimp only [List.set, Nat.reduceAdd] at hS
    refine wl_nil (hK15 _ _ ?_)
    refine wp_ret ?_
    try simp only [Exit.then, Exit.inBlock, ↓reduceIte]
    refine ret1c rfl ag41 hF hS (i := 0) rfl sz41 rfl ⟨⟨⟨_, _, _⟩, rfl, ?_⟩, (Sep.headp (A := [_, _]) (B := [_]) hS [1] (by decide) rfl rfl)⟩
    unfold Sl.Op.ok; dsimp only; omega
  refine ws fun K16 hK16 => ?_
  refine wl hF rfl rfl rfl (r_eql (hF.ev rfl) ec) ?_; clear hF a; intro a hF
  refine wl_mvs (A := [_]) hF rfl ?_; clear hF a; intro a hF
  refine wl_nil (hK16 _ _ ?_)
  refine wc_fx (t := 22) hF rfl ?_ ?_ <;> clear hF <;> intro c22 hF <;> try simp only [zb1, zb2, zb3, zb4, zb5, zb6, zb7, zb8] at c22
  ·
    refine ws fun K17 hK17 => ?_
    refine wl hF rfl rfl rfl (r_build (bd41_0 _) ⟨rfl, ec, trivial⟩) ?_; clear hF a; intro a hF
    refine wl_storew hF hS (i := 0) rfl (hF.ev rfl) (hF.ev rfl) sz41 rfl rfl ?_; intro w12 hS_; replace hS := hS_; clear hS_; dsimp only [List.set, Nat.reduceAdd] at hS
    refine wl_nil (hK17 _ _ ?_)
    refine wp_ret ?_
    try simp only [Exit.then, Exit.inBlock, ↓reduceIte]
    refine ret1c rfl ag41 hF hS (i := 0) rfl sz41 rfl ⟨⟨⟨_, _, _⟩, rfl, ?_⟩, (Sep.headp (A := [_, _]) (B := [_]) hS [1] (by decide) rfl rfl)⟩
    unfold Sl.Op.ok; dsimp only; omega
  refine wp_skip ?_
  simp only [Exit.then, Exit.inBlock, ↓reduceIte]
  refine hK2 _ _ ?_
  refine ws fun K18 hK18 => ?_
  refine wl_mvs (A := [_, _]) hF rfl ?_; clear hF a; intro a hF
  refine wl_call hF rfl rfl rfl (r_call2 en68 (hF.ev rfl) (hF.ev rfl)) (l1Below_c hbs (q := 1) _ hS rfl) ?_; clear hF a; rintro v w13 a ⟨⟨x27, rfl, h27⟩, hS_⟩ hF; replace hS := hS_; clear hS_
  refine wl_mvs (A := [_]) hF rfl ?_; clear hF a; intro a hF
  refine wl_call hF rfl rfl rfl (r_call2 en68 (hF.ev rfl) ec) (l1Below_c hbs (q := 1) _ hS rfl) ?_; clear hF a; rintro v w14 a ⟨⟨x29, rfl, h29⟩, hS_⟩ hF; replace hS := hS_; clear hS_
  refine wl hF rfl rfl rfl (r_build (bd41_0_1_2 _ _ _) ⟨rfl, ec, rfl, (hF.ev rfl), rfl, (hF.ev rfl), trivial⟩) ?_; clear hF a; intro a hF
  refine wl_storew hF hS (i := 0) rfl (hF.ev rfl) (hF.ev rfl) sz41 rfl rfl ?_; intro w15 hS_; replace hS := hS_; clear hS_; dsimp only [List.set, Nat.reduceAdd] at hS
  refine wl_nil (hK18 _ _ ?_)
  refine wp_ret ?_
  try simp only [Exit.then, Exit.inBlock, ↓reduceIte]
  refine ret1c rfl ag41 hF hS (i := 0) rfl sz41 rfl ⟨⟨⟨_, _, _⟩, rfl, ?_⟩, (Sep.headp (A := [_, _]) (B := [_]) hS [1] (by decide) rfl rfl)⟩
  unfold Sl.Op.ok; dsimp only; omega

theorem l5Op_c {W : World} {g : Nat} {vb : Value} {bs : List Int} (hbs : byteEK.Rd W vb bs) {l : List Res} {w : World} {q : Nat} {n : Int} (hn : n ≤ 10) (hS : Sep W l w) (hq : l[q]? = some (Cur g vb bs.length)) : Calls Try.prog 84 #[.pointer (some ⟨g, 0, none⟩), vi n] w (Ret fun v w' => (∃ o : Sl.Op, v = .agg o.enc.toArray ∧ o.ok) ∧ Sep W l w') :=
  draw_at (R := fun v => ∃ o : Sl.Op, v = .agg o.enc.toArray ∧ o.ok) (fun _ _ h => l5Op_h hbs h hn) hS hq

set_option maxHeartbeats 4000000 in
set_option maxRecDepth 20000 in
theorem l5Any_h {W : World} {g : Nat} {vb : Value} {bs : List Int} (hbs : byteEK.Rd W vb bs) {l : List Res} {w : World} (hS : Sep W (Cur g vb bs.length :: l) w) : Calls Try.prog 69 #[.pointer (some ⟨g, 0, none⟩)] w (Ret fun v w' => (∃ o : Sl.Op, v = .agg o.enc.toArray ∧ o.wf) ∧ Sep W (Cur g vb bs.length :: l) w') := by
  refine calls_fr Try.func69 rfl Try.ntmps69 rfl ?_
  intro a hF

  refine ws fun K1 hK1 => ?_
  refine wl_alloc hF hS rfl zr41 ?_; clear hF a; intro g1 w1 a hS_ hB_ hF; replace hS := hS_; clear hS_ hB_
  refine wl_nil (hK1 _ _ ?_)
  refine ws fun K2 hK2 => ?_
  refine wl_mvs (A := [_]) hF rfl ?_; clear hF a; intro a hF
  refine wl_call hF rfl rfl rfl (r_call2 en84 (hF.ev rfl) ec) (l5Op_c hbs (q := 1) (by omega) hS rfl) ?_; clear hF a; rintro v w2 a ⟨⟨o5, rfl, h5⟩, hS_⟩ hF; replace hS := hS_; clear hS_
  refine wl_alloc hF hS rfl zr41 ?_; clear hF a; intro g2 w3 a hS_ hB_ hF; replace hS := hS_; clear hS_ hB_
  refine wl_storen (cs' := [_, _, _]) hF hS (i := 0) rfl (hF.ev rfl) (hF.ev rfl) sz41 ⟨rfl, rfl⟩ rfl rfl ?_; intro w4 hS_; replace hS := hS_; clear hS_; dsimp only [List.set] at hS
  refine wl_nil (hK2 _ _ ?_)
  refine wp_seq_k fun K3 hK3 => ?_
  refine ws fun K4 hK4 => ?_
  refine wl_mvs (A := [_]) hF rfl ?_; clear hF a; intro a hF
  refine wl_call hF rfl rfl rfl (r_call2 en68 (hF.ev rfl) ec) (l1Below_c hbs (q := 2) _ hS rfl) ?_; clear hF a; rintro v w5 a ⟨⟨x7, rfl, h7⟩, hS_⟩ hF; replace hS := hS_; clear hS_
  refine wl_nil (hK4 _ _ ?_)
  refine wp_block ?_
  refine ws fun K5 hK5 => ?_
  refine wl hF rfl rfl rfl (r_eql (hF.ev rfl) ec) ?_; clear hF a; intro a hF
  refine wl_mvs (A := [_]) hF rfl ?_; clear hF a; intro a hF
  refine wl_nil (hK5 _ _ ?_)
  refine wc_fx (t := 8) hF rfl ?_ ?_ <;> clear hF <;> intro c8 hF <;> try simp only [zb1, zb2, zb3, zb4, zb5, zb6, zb7, zb8] at c8
  ·
    refine wp_region_lit ?_
    refine wl_mvs (A := [_]) hF rfl ?_; clear hF a; intro a hF
    refine wl_bslice intEK [vi 0, vi 5, vi 6] [0, 5, 6] rfl hF hS rfl mk24 rfl ⟨rfl, ec, rfl, ec, rfl, ec, trivial⟩ rfl rfl rfl rfl ?_; clear hF a; intro gl_11 w6 a hS_ hF; replace hS := hS_; clear hS_
    refine wl_call hF rfl rfl rfl (r_call2 en83 (hF.ev rfl) (hF.ev rfl)) (l1PickInt_c hbs (q := 3) (fun w_ hS => (hS.own_rd (i := 0) rfl)) (by decide) hS rfl) ?_; clear hF a; rintro v w7 a ⟨⟨x12, rfl, h12⟩, hS_⟩ hF; replace hS := hS_; clear hS_
    refine wl hF rfl rfl rfl (r_field fo41_0 (hF.ev rfl)) ?_; clear hF a; intro a hF
    refine wl_store hF hS (i := 1) rfl sz3 (hF.ev rfl) (hF.ev rfl) rfl rfl ?_; intro w8 hS_; replace hS := hS_; clear hS_; dsimp only [List.set, Nat.reduceAdd] at hS
    refine wl_nil ?_
    simp only [Exit.then, Exit.inBlock, ↓reduceIte]
    refine hK3 _ _ ?_
    refine ws fun K6 hK6 => ?_
    refine wl hF rfl rfl rfl (r_loadn ag41 (hF.ev rfl) (hS.box_rd (i := 1) rfl) sz41) ?_; clear hF a; intro a hF
    refine wl_storew hF hS (i := 2) rfl (hF.ev rfl) (hF.ev rfl) sz41 rfl rfl ?_; intro w9 hS_; replace hS := hS_; clear hS_; dsimp only [List.set, Nat.reduceAdd] at hS
    refine wl_nil (hK6 _ _ ?_)
    refine wp_ret ?_
    try simp only [Exit.then, Exit.inBlock, ↓reduceIte]
    unfold Sl.Op.ok at h5
    refine ret1c rfl ag41 hF hS (i := 2) rfl sz41 rfl ⟨⟨⟨x12, o5.key, o5.value⟩, rfl, ?_⟩, (Sep.headp (A := [_, _, _, _]) (B := [_]) hS [3] (by decide) rfl rfl)⟩
    unfold Sl.Op.wf int64; dsimp only
    simp only [List.mem_cons, List.not_mem_nil, or_false] at h12
    omega
  refine ws fun K7 hK7 => ?_
  refine wl hF rfl rfl rfl (r_eql (hF.ev rfl) ec) ?_; clear hF a; intro a hF
  refine wl_mvs (A := [_]) hF rfl ?_; clear hF a; intro a hF
  refine wl_nil (hK7 _ _ ?_)
  refine wc_fx (t := 14) hF rfl ?_ ?_ <;> clear hF <;> intro c14 hF <;> try simp only [zb1, zb2, zb3, zb4, zb5, zb6, zb7, zb8] at c14
  ·
    refine wp_region_lit ?_
    refine wl_mvs (A := [_]) hF rfl ?_; clear hF a; intro a hF
    refine wl_bslice intEK [vi (-1), vi 0, vi 9, vi 10] [-1, 0, 9, 10] rfl hF hS rfl mk24 rfl ⟨rfl, ec, rfl, ec, rfl, ec, rfl, ec, trivial⟩ rfl rfl rfl rfl ?_; clear hF a; intro gl_17 w10 a hS_ hF; replace hS := hS_; clear hS_
    refine wl_call hF rfl rfl rfl (r_call2 en83 (hF.ev rfl) (hF.ev rfl)) (l1PickInt_c hbs (q := 3) (fun w_ hS => (hS.own_rd (i := 0) rfl)) (by decide) hS rfl) ?_; clear hF a; rintro v w11 a ⟨⟨x18, rfl, h18⟩, hS_⟩ hF; replace hS := hS_; clear hS_
    refine wl hF rfl rfl rfl (r_field fo41_1 (hF.ev rfl)) ?_; clear hF a; intro a hF
    refine wl_store hF hS (i := 1) rfl sz3 (hF.ev rfl) (hF.ev rfl) rfl rfl ?_; intro w12 hS_; replace hS := hS_; clear hS_; dsimp only [List.set, Nat.reduceAdd] at hS
    refine wl_nil ?_
    simp only [Exit.then, Exit.inBlock, ↓reduceIte]
    refine hK3 _ _ ?_
    refine ws fun K8 hK8 => ?_
    refine wl hF rfl rfl rfl (r_loadn ag41 (hF.ev rfl) (hS.box_rd (i := 1) rfl) sz41) ?_; clear hF a; intro a hF
    refine wl_storew hF hS (i := 2) rfl (hF.ev rfl) (hF.ev rfl) sz41 rfl rfl ?_; intro w13 hS_; replace hS := hS_; clear hS_; dsimp only [List.set, Nat.reduceAdd] at hS
    refine wl_nil (hK8 _ _ ?_)
    refine wp_ret ?_
    try simp only [Exit.then, Exit.inBlock, ↓reduceIte]
    unfold Sl.Op.ok at h5
    refine ret1c rfl ag41 hF hS (i := 2) rfl sz41 rfl ⟨⟨⟨o5.kind, x18, o5.value⟩, rfl, ?_⟩, (Sep.headp (A := [_, _, _, _]) (B := [_]) hS [3] (by decide) rfl rfl)⟩
    unfold Sl.Op.wf int64; dsimp only
    simp only [List.mem_cons, List.not_mem_nil, or_false] at h18
    omega
  refine ws fun K9 hK9 => ?_
  refine wl hF rfl rfl rfl (r_eql (hF.ev rfl) ec) ?_; clear hF a; intro a hF
  refine wl_mvs (A := [_]) hF rfl ?_; clear hF a; intro a hF
  refine wl_nil (hK9 _ _ ?_)
  refine wc_fx (t := 20) hF rfl ?_ ?_ <;> clear hF <;> intro c20 hF <;> try simp only [zb1, zb2, zb3, zb4, zb5, zb6, zb7, zb8] at c20
  ·
    refine wp_region_lit ?_
    refine wl_mvs (A := [_]) hF rfl ?_; clear hF a; intro a hF
    refine wl_bslice intEK [vi (-1), vi 0, vi 99, vi 100] [-1, 0, 99, 100] rfl hF hS rfl mk24 rfl ⟨rfl, ec, rfl, ec, rfl, ec, rfl, ec, trivial⟩ rfl rfl rfl rfl ?_; clear hF a; intro gl_23 w14 a hS_ hF; replace hS := hS_; clear hS_
    refine wl_call hF rfl rfl rfl (r_call2 en83 (hF.ev rfl) (hF.ev rfl)) (l1PickInt_c hbs (q := 3) (fun w_ hS => (hS.own_rd (i := 0) rfl)) (by decide) hS rfl) ?_; clear hF a; rintro v w15 a ⟨⟨x24, rfl, h24⟩, hS_⟩ hF; replace hS := hS_; clear hS_
    refine wl hF rfl rfl rfl (r_field fo41_2 (hF.ev rfl)) ?_; clear hF a; intro a hF
    refine wl_store hF hS (i := 1) rfl sz3 (hF.ev rfl) (hF.ev rfl) rfl rfl ?_; intro w16 hS_; replace hS := hS_; clear hS_; dsimp only [List.set, Nat.reduceAdd] at hS
    refine wl_nil ?_
    simp only [Exit.then, Exit.inBlock, ↓reduceIte]
    refine hK3 _ _ ?_
    refine ws fun K10 hK10 => ?_
    refine wl hF rfl rfl rfl (r_loadn ag41 (hF.ev rfl) (hS.box_rd (i := 1) rfl) sz41) ?_; clear hF a; intro a hF
    refine wl_storew hF hS (i := 2) rfl (hF.ev rfl) (hF.ev rfl) sz41 rfl rfl ?_; intro w17 hS_; replace hS := hS_; clear hS_; dsimp only [List.set, Nat.reduceAdd] at hS
    refine wl_nil (hK10 _ _ ?_)
    refine wp_ret ?_
    try simp only [Exit.then, Exit.inBlock, ↓reduceIte]
    unfold Sl.Op.ok at h5
    refine ret1c rfl ag41 hF hS (i := 2) rfl sz41 rfl ⟨⟨⟨o5.kind, o5.key, x24⟩, rfl, ?_⟩, (Sep.headp (A := [_, _, _, _]) (B := [_]) hS [3] (by decide) rfl rfl)⟩
    unfold Sl.Op.wf int64; dsimp only
    simp only [List.mem_cons, List.not_mem_nil, or_false] at h24
    omega
  refine wp_skip ?_
  simp only [Exit.then, Exit.inBlock, ↓reduceIte]
  refine hK3 _ _ ?_
  refine ws fun K11 hK11 => ?_
  refine wl hF rfl rfl rfl (r_loadn ag41 (hF.ev rfl) (hS.box_rd (i := 0) rfl) sz41) ?_; clear hF a; intro a hF
  refine wl_storew hF hS (i := 1) rfl (hF.ev rfl) (hF.ev rfl) sz41 rfl rfl ?_; intro w18 hS_; replace hS := hS_; clear hS_; dsimp only [List.set, Nat.reduceAdd] at hS
  refine wl_nil (hK11 _ _ ?_)
  refine wp_ret ?_
  try simp only [Exit.then, Exit.inBlock, ↓reduceIte]
  unfold Sl.Op.ok at h5
  refine ret1c rfl ag41 hF hS (i := 1) rfl sz41 rfl ⟨⟨⟨o5.kind, o5.key, o5.value⟩, rfl, ?_⟩, (Sep.headp (A := [_, _, _]) (B := [_]) hS [2] (by decide) rfl rfl)⟩
  unfold Sl.Op.wf int64; dsimp only
  omega

theorem l5Any_c {W : World} {g : Nat} {vb : Value} {bs : List Int} (hbs : byteEK.Rd W vb bs) {l : List Res} {w : World} {q : Nat} (hS : Sep W l w) (hq : l[q]? = some (Cur g vb bs.length)) : Calls Try.prog 69 #[.pointer (some ⟨g, 0, none⟩)] w (Ret fun v w' => (∃ o : Sl.Op, v = .agg o.enc.toArray ∧ o.wf) ∧ Sep W l w') :=
  draw_at (R := fun v => ∃ o : Sl.Op, v = .agg o.enc.toArray ∧ o.wf) (fun _ _ h => l5Any_h hbs h ) hS hq

set_option maxHeartbeats 4000000 in
set_option maxRecDepth 20000 in
theorem l19Event_h {W : World} {g : Nat} {vb : Value} {bs : List Int} (hbs : byteEK.Rd W vb bs) {l : List Res} {w : World} (hS : Sep W (Cur g vb bs.length :: l) w) : Calls Try.prog 77 #[.pointer (some ⟨g, 0, none⟩)] w (Ret fun v w' => (∃ e : Sl.Event, v = .agg e.enc.toArray) ∧ Sep W (Cur g vb bs.length :: l) w') := by
  refine calls_fr Try.func77 rfl Try.ntmps77 rfl ?_
  intro a hF

  refine ws fun K1 hK1 => ?_
  refine wl_alloc hF hS rfl zr44 ?_; clear hF a; intro g1 w1 a hS_ hB_ hF; replace hS := hS_; clear hS_ hB_
  refine wl_nil (hK1 _ _ ?_)
  refine ws fun K2 hK2 => ?_
  refine wl_mvs (A := [_]) hF rfl ?_; clear hF a; intro a hF
  refine wl_call hF rfl rfl rfl (r_call2 en68 (hF.ev rfl) ec) (l1Below_c hbs (q := 1) _ hS rfl) ?_; clear hF a; rintro v w2 a ⟨⟨x4, rfl, h4⟩, hS_⟩ hF; replace hS := hS_; clear hS_
  refine wl_mvs (A := [_]) hF rfl ?_; clear hF a; intro a hF
  refine wl_call hF rfl rfl rfl (r_call1 en69 (hF.ev rfl)) (l5Any_c hbs (q := 1) hS rfl) ?_; clear hF a; rintro v w3 a ⟨⟨o6, rfl, h6⟩, hS_⟩ hF; replace hS := hS_; clear hS_
  refine wl_mvs (A := [_]) hF rfl ?_; clear hF a; intro a hF
  refine wl_bslice intEK [vi 0, vi 0, vi 0, vi 1, vi 2, vi 3, vi 5] [0, 0, 0, 1, 2, 3, 5] rfl hF hS rfl mk24 rfl ⟨rfl, ec, rfl, ec, rfl, ec, rfl, ec, rfl, ec, rfl, ec, rfl, ec, trivial⟩ rfl rfl rfl rfl ?_; clear hF a; intro gl_8 w4 a hS_ hF; replace hS := hS_; clear hS_
  refine wl_call hF rfl rfl rfl (r_call2 en83 (hF.ev rfl) (hF.ev rfl)) (l1PickInt_c hbs (q := 2) (fun w_ hS => (hS.own_rd (i := 0) rfl)) (by decide) hS rfl) ?_; clear hF a; rintro v w5 a ⟨⟨x9, rfl, h9⟩, hS_⟩ hF; replace hS := hS_; clear hS_
  refine wl_mvs (A := [_]) hF rfl ?_; clear hF a; intro a hF
  refine wl_bslice intEK [vi 0, vi 0, vi 7] [0, 0, 7] rfl hF hS rfl mk24 rfl ⟨rfl, ec, rfl, ec, rfl, ec, trivial⟩ rfl rfl rfl rfl ?_; clear hF a; intro gl_11 w6 a hS_ hF; replace hS := hS_; clear hS_
  refine wl_call hF rfl rfl rfl (r_call2 en83 (hF.ev rfl) (hF.ev rfl)) (l1PickInt_c hbs (q := 3) (fun w_ hS => (hS.own_rd (i := 0) rfl)) (by decide) hS rfl) ?_; clear hF a; rintro v w7 a ⟨⟨x12, rfl, h12⟩, hS_⟩ hF; replace hS := hS_; clear hS_
  refine wl hF rfl rfl rfl (r_build (bd42_0_1 _ _) ⟨rfl, (hF.ev rfl), rfl, (hF.ev rfl), trivial⟩) ?_; clear hF a; intro a hF
  refine wl_mvs (A := [_]) hF rfl ?_; clear hF a; intro a hF
  refine wl_bslice intEK [vi (-1), vi 3, vi 3] [-1, 3, 3] rfl hF hS rfl mk24 rfl ⟨rfl, ec, rfl, ec, rfl, ec, trivial⟩ rfl rfl rfl rfl ?_; clear hF a; intro gl_15 w8 a hS_ hF; replace hS := hS_; clear hS_
  refine wl_call hF rfl rfl rfl (r_call2 en83 (hF.ev rfl) (hF.ev rfl)) (l1PickInt_c hbs (q := 4) (fun w_ hS => (hS.own_rd (i := 0) rfl)) (by decide) hS rfl) ?_; clear hF a; rintro v w9 a ⟨⟨x16, rfl, h16⟩, hS_⟩ hF; replace hS := hS_; clear hS_
  refine wl hF rfl rfl rfl (r_build (bd44_0_1_2_3_4 _ _ _ _ _ _ _ _) ⟨rfl, (hF.ev rfl), rfl, (hF.ev rfl), rfl, (hF.ev rfl), rfl, ec, rfl, (hF.ev rfl), trivial⟩) ?_; clear hF a; intro a hF
  refine wl_storew hF hS (i := 3) rfl (hF.ev rfl) (hF.ev rfl) sz44 rfl rfl ?_; intro w10 hS_; replace hS := hS_; clear hS_; dsimp only [List.set, Nat.reduceAdd] at hS
  refine wl_nil (hK2 _ _ ?_)
  refine wp_ret ?_
  try simp only [Exit.then, Exit.inBlock, ↓reduceIte]
  exact ret1c rfl ag44 hF hS (i := 3) rfl sz44 rfl ⟨⟨⟨_, ⟨_, _, _⟩, ⟨_, _⟩, _, _⟩, rfl⟩, (Sep.headp (A := [_, _, _, _, _]) (B := [_]) hS [4] (by decide) rfl rfl)⟩

theorem l19Event_c {W : World} {g : Nat} {vb : Value} {bs : List Int} (hbs : byteEK.Rd W vb bs) {l : List Res} {w : World} {q : Nat} (hS : Sep W l w) (hq : l[q]? = some (Cur g vb bs.length)) : Calls Try.prog 77 #[.pointer (some ⟨g, 0, none⟩)] w (Ret fun v w' => (∃ e : Sl.Event, v = .agg e.enc.toArray) ∧ Sep W l w') :=
  draw_at (R := fun v => ∃ e : Sl.Event, v = .agg e.enc.toArray) (fun _ _ h => l19Event_h hbs h ) hS hq

set_option maxHeartbeats 4000000 in
set_option maxRecDepth 20000 in
theorem l1New_c {W : World} {vb : Value} {bs : List Int} (hb : byteEK.Rd W vb bs) (hz : bs.length ≤ 1048576) : Calls Try.prog 65 #[vb] W (Ret (Mk W (fun g : Nat => .pointer (some ⟨g, 0, none⟩)) (fun g => [Cur g vb bs.length]))) := by
  refine calls_fr Try.func65 rfl Try.ntmps65 rfl ?_
  intro a hF
  have hS := Sep.refl W
  obtain ⟨A_b, q_b, rfl, hq_b, hn_b⟩ := hb.sl; unfold maxLen at hn_b
  refine ws fun K1 hK1 => ?_
  refine wl_mvs (A := [_]) hF rfl ?_; clear hF a; intro a hF
  refine wl_nil (hK1 _ _ ?_)
  refine ws fun K2 hK2 => ?_
  refine wl_mvs (A := [_]) hF rfl ?_; clear hF a; intro a hF
  refine wl hF rfl rfl rfl (r_len ul64 (hF.ev rfl)) ?_; clear hF a; intro a hF
  refine wl hF rfl rfl rfl (r_add ec (hF.ev rfl)) ?_; clear hF a; intro a hF
  refine wl_mvs (A := [_]) hF rfl ?_; clear hF a; intro a hF
  refine wl_nil (hK2 _ _ ?_)
  refine wp_seq_k fun K3 hK3 => ?_
  refine ws fun K4 hK4 => ?_
  refine wl_mvs (A := [_]) hF rfl ?_; clear hF a; intro a hF
  refine wl_nil (hK4 _ _ ?_)
  refine wp_block ?_
  have hL_ := ((hF.nil.keep hF (t := 2) rfl).keep hF (t := 0) rfl)
  refine wp_loop_r (σ := Nat × Int) (fun z L_ => (4, vi z.1) :: (3, vi z.2) :: L_) (fun z => (z.1 ≤ bs.length)) (fun z => bs.length - z.1) (0, _) hS ((hL_.keepE hF (t := 3) rfl rfl).keepE hF (t := 4) rfl rfl) ?_ ?_
  · exact Nat.zero_le _
  clear hF hS hL_ a
  rintro ⟨k, h⟩ a w1 hk hS hF; try dsimp only at hF; try dsimp only at hS; try dsimp only at hk
  refine wp_seq_k fun K5 hK5 => ?_
  refine ws fun K6 hK6 => ?_
  refine wl_mvs (A := [_, _]) hF rfl ?_; clear hF a; intro a hF
  refine wl hF rfl rfl rfl (r_len ul64 (hF.ev rfl)) ?_; clear hF a; intro a hF
  refine wl hF rfl rfl rfl (r_lss (hF.ev rfl) (hF.ev rfl)) ?_; clear hF a; intro a hF
  refine wl_mvs (A := [_]) hF rfl ?_; clear hF a; intro a hF
  apply wl_and (A := [_, _, _]) (pk := 15) hF hS (tc := 12) rfl
  ·
    intro hg12 a hF; try simp only [zb1, zb2, zb3, zb4, zb5, zb6, zb7, zb8] at hg12
    refine wl_mvs (A := [_]) hF rfl ?_; clear hF a; intro a hF
    refine wl_take hF rfl rfl rfl rfl ?_
    refine wl hF rfl rfl rfl (r_lss (hF.ev rfl) ec) ?_; clear hF a; intro a hF
    refine wl hF rfl rfl rfl (r_pick_t (hF.ev rfl) (hF.ev rfl)) ?_; clear hF a; intro a hF
    exact wl_nil ⟨rfl, (Fr.pre (A := [_, _, _]) hF rfl).keep hF (t := 15) rfl, hS⟩
  ·
    intro hg12 a hF; try simp only [zb1, zb2, zb3, zb4, zb5, zb6, zb7, zb8] at hg12
    refine wl_mvs (A := [_, _]) hF rfl ?_; clear hF a; intro a hF
    refine wl hF rfl rfl rfl (r_pick_f (hF.ev rfl) ec) ?_; clear hF a; intro a hF
    exact wl_nil ⟨rfl, (Fr.pre (A := [_, _, _]) hF rfl).keep hF (t := 15) rfl, hS⟩
  clear hF a hS; intro a w2 hF hS
  refine wl_nil (hK6 _ _ ?_)
  refine wc_fx (t := 15) hF rfl ?_ ?_ <;> clear hF <;> intro c15 hF <;> try simp only [zb1, zb2, zb3, zb4, zb5, zb6, zb7, zb8] at c15
  ·
    refine wp_skip ?_
    refine hK5 _ _ ?_
    refine wp_seq_k fun K7 hK7 => ?_
    refine wp_block ?_
    refine wp_region_lit ?_
    refine wl_mvs (A := [_]) hF rfl ?_; clear hF a; intro a hF
    refine wl hF rfl rfl rfl (r_mul (hF.ev rfl) ec) ?_; clear hF a; intro a hF
    refine wl_mvs (A := [_, _]) hF rfl ?_; clear hF a; intro a hF
    obtain ⟨g22, o22, m22, q22, hv22, hm22, hl22, hc22⟩ := Rd.atF (hb) (a := a) (X := .tmp 21) (hF.ev rfl) (by omega) (by omega)
    refine wl hF rfl rfl rfl (r_index sl64 ((hF.ev rfl).trans hv22) (hF.ev rfl) (by omega) (by first | omega | (simp at hm22; omega))) ?_; clear hF a; intro a hF
    refine wl hF rfl rfl rfl (r_load1 sc5 (hF.ev rfl) (cellB hS.old (hc22 0 _ rfl))) ?_; clear hF a; intro a hF
    refine wl hF rfl rfl rfl (r_convw iu5 iu3 (hF.ev rfl)) ?_; clear hF a; intro a hF
    refine wl hF rfl rfl rfl (r_add (hF.ev rfl) (hF.ev rfl)) ?_; clear hF a; intro a hF
    refine wl hF rfl rfl rfl (r_add (hF.ev rfl) ec) ?_; clear hF a; intro a hF
    refine wl hF rfl rfl rfl (r_and (hF.ev rfl) ec) ?_; clear hF a; intro a hF
    refine wl_mvs (A := [_]) hF rfl ?_; clear hF a; intro a hF
    refine wl_nil ?_
    simp only [Exit.then, Exit.inBlock, ↓reduceIte]
    refine hK7 _ _ ?_
    refine wp_region_lit ?_
    refine wl_mvs (A := [_]) hF rfl ?_; clear hF a; intro a hF
    refine wl hF rfl rfl rfl (r_add (hF.ev rfl) ec) ?_; clear hF a; intro a hF
    refine wl_mvs (A := [_]) hF rfl ?_; clear hF a; intro a hF
    refine wl_nil ?_
    try simp only [Exit.then, Exit.inBlock, ↓reduceIte]
    refine ⟨(k + 1, _), (by dsimp only; omega), hS, ((((hF.nil.keep hF (t := 2) rfl).keep hF (t := 0) rfl).keepE hF (t := 3) rfl rfl).keepE hF (t := 4) rfl (wk (by omega))), by dsimp only; omega⟩
  refine wp_exit ?_
  simp only [Exit.then, Exit.inBlock, ↓reduceIte]
  refine hK3 _ _ ?_
  refine ws fun K8 hK8 => ?_
  refine wl_mvs (A := [_, _]) hF rfl ?_; clear hF a; intro a hF
  refine wl hF rfl rfl rfl (r_build (bd104_0_2 _ _ _ _) ⟨rfl, (hF.ev rfl), rfl, (hF.ev rfl), trivial⟩) ?_; clear hF a; intro a hF
  refine wl_box (cs := [_, _, _]) hF hS rfl (hF.ev rfl) rfl ?_; clear hF a; intro g1 w3 a hS_ hB_ hF; replace hS := hS_; clear hS_ hB_
  refine wl_mvs (A := [_]) hF rfl ?_; clear hF a; intro a hF
  refine wl_nil (hK8 _ _ ?_)
  refine wp_ret ?_
  try simp only [Exit.then, Exit.inBlock, ↓reduceIte]
  exact ret1 rfl hF rfl ⟨g1, rfl, (hS.pick [0] (by decide) rfl).cur_close ⟨by omega, by omega⟩⟩

end Go.Proofs.Yteldnoimmjihoaa.Wk
