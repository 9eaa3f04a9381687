/- What is proved here: pieces of the evaluator's soundness: if the evaluator comes to a value, the model's run comes to it, for every world and tape; no conditions beyond the hypotheses of each theorem. -/
import Derived.Test.YtmbpllipombieaaDoorEv5
set_option linter.unusedSimpArgs false
set_option linter.unusedVariables false
set_option linter.defProp false
set_option maxRecDepth 10000
set_option maxHeartbeats 16000000
namespace Go.Proofs.YtmbpllipombieaaDoor.Ev
open Go
noncomputable section
abbrev fvS (b : Nat) : V := .f 74 [] [.p (b + 3) 0, .p (b + 4) 0, .p (b + 2) 0, .p (b + 5) 0, .p b 0]
theorem ws_at {M0 M : Mem} {b c1 i j : Nat} {s text : List UInt8} {w : List Pc} {sm : Bool} (hW : WS M0 b s M c1 w text sm i) : WS M0 b s (M.set (b + 5) (rowB 3 [.i .i64 (j : Int)])) c1 w text sm j := by
 obtain ⟨v, tv, p1, p0, gr, h6, m0, m1, m2, m3, m4, m5, hA, hT0⟩ := hW
 exact ⟨v, tv, p1, p0, gr.set (b + 5) _ (by omega) (by omega) (Nat.le_refl _), h6, by rw [get_ne _ _ (by omega)]; exact m0, by rw [get_ne _ _ (by omega)]; exact m1, by rw [get_ne _ _ (by omega)]; exact m2, by rw [get_ne _ _ (by omega)]; exact m3, by rw [get_ne _ _ (by omega)]; exact m4, get_same _ _ _, acc_set2 hA (by omega), acc_set2 hT0 (by omega)⟩
theorem n56_0 (Φ : Nat → Option CF) (h74 : Φ 74 = some c74) {F : RO} {M0 M : Mem} {b c1 i : Nat} {s text : List UInt8} {w : List Pc} {sm : Bool} (ok0 : Okm F M0 b) (hi : i ≤ s.length) (hs : s.length ≤ 400000) (hw : w.length ≤ 1000000) (ht : text.length ≤ 1000000) (hst : stW (s.drop i) = none) (hW : WS M0 b s M c1 w text sm i) (u : List (Option V)) (Q : Ex → St → Prop)
  (hQ : ∀ (u : List (Option V)) M' c' v p, Gr b M0 c' M' → b + 6 ≤ c' → M'.get (b + 1) = some (rowB 36 [v]) → AccAt M' (b + 6) c' p 64 2 v (pcE (rdEnd w text sm)) → Q .ret (.mk ((.n (.n (.n (.n (uv7 u 63 31 95 15 79 47 111) (uO u 7) (uv7 u 71 39 103 23 87 55 119)) (some (.i .i64 (i : Int))) (.n (uv7 u 67 35 99 19 83 51 115) (uO u 11) (uv7 u 75 43 107 27 91 59 123))) (uO u 1) (.n (.n (uv7 u 65 33 97 17 81 49 113) (uO u 9) (uv7 u 73 41 105 25 89 57 121)) (uO u 5) (.n (uv7 u 69 37 101 21 85 53 117) (uO u 13) (uv7 u 77 45 109 29 93 61 125)))) (uO u 0) (.n (.n (.n (uv7 u 64 32 96 16 80 48 112) (uO u 8) (uv7 u 72 40 104 24 88 56 120)) (uO u 4) (.n (uv7 u 68 36 100 20 84 52 116) (uO u 12) (uv7 u 76 44 108 28 92 60 124))) (some (.p (b + 1) 0)) (.n (.n (uv7 u 66 34 98 18 82 50 114) (uO u 10) (uv7 u 74 42 106 26 90 58 122)) (uO u 6) (.n (uv7 u 70 38 102 22 86 54 118) (uO u 14) (uv7 u 78 46 110 30 94 62 126)))))) [] M' c')) :
  Wp (.seq .skip (.seq b56_68 (.seq b56_69 .ret))) (K Φ none 56 F) (.mk ((.n (.n (.n (.n (uv7 u 63 31 95 15 79 47 111) (some (.p (b + 5) 0)) (uv7 u 71 39 103 23 87 55 119)) (uO u 3) (.n (uv7 u 67 35 99 19 83 51 115) (uO u 11) (uv7 u 75 43 107 27 91 59 123))) (some (.p b 0)) (.n (.n (uv7 u 65 33 97 17 81 49 113) (some (fvS b)) (uv7 u 73 41 105 25 89 57 121)) (some (.p (b + 3) 0)) (.n (uv7 u 69 37 101 21 85 53 117) (uO u 13) (uv7 u 77 45 109 29 93 61 125)))) (uO u 0) (.n (.n (.n (uv7 u 64 32 96 16 80 48 112) (uO u 8) (uv7 u 72 40 104 24 88 56 120)) (some (.p (b + 2) 0)) (.n (uv7 u 68 36 100 20 84 52 116) (uO u 12) (uv7 u 76 44 108 28 92 60 124))) (some (.p (b + 1) 0)) (.n (.n (uv7 u 66 34 98 18 82 50 114) (uO u 10) (uv7 u 74 42 106 26 90 58 122)) (some (.p (b + 4) 0)) (.n (uv7 u 70 38 102 22 86 54 118) (uO u 14) (uv7 u 78 46 110 30 94 62 126)))))) [] M c1) Q := by
 simp only [WX, w56_68]
 refine putE_to ((r74 Φ h74 ok0 hi hs hw ht hW).mono ?_)
 rintro r M' c' ⟨hW', hle⟩
 rw [flW_end hst] at hW'
 simp only [WX]
 refine fin69 Φ ok0 hW' _ [_, none, none, _, none, none, none, none, _, none, _, _, _, _, _, _, _, _, _, _, _, _, _, _, _, _, _, _, _, _, _, _, _, _, _, _, _, _, _, _, _, _, _, _, _, _, _, _, _, _, _, _, _, _, _, _, _, _, _, _, _, _, _, _, _, _, _, _, _, _, _, _, _, _, _, _, _, _, _, _, _, _, _, _, _, _, _, _, _, _, _, _, _, _, _, _, _, _, _, _, _, _, _, _, _, _, _, _, _, _, _, _, _, _, _, _, _, _, _, _, _, _, _, _, _, _, _] _ ?_
 intro u M2 c2 v p g h6 hm hA
 simp only [WX]
 exact hQ [_, _, none, none, _, _, _, _, _, _, _, _, _, _, _, _, _, _, _, _, _, _, _, _, _, _, _, _, _, _, _, _, _, _, _, _, _, _, _, _, _, _, _, _, _, _, _, _, _, _, _, _, _, _, _, _, _, _, _, _, _, _, _, _, _, _, _, _, _, _, _, _, _, _, _, _, _, _, _, _, _, _, _, _, _, _, _, _, _, _, _, _, _, _, _, _, _, _, _, _, _, _, _, _, _, _, _, _, _, _, _, _, _, _, _, _, _, _, _, _, _, _, _, _, _, _, _] _ _ v p g h6 hm hA
theorem n56_2 (Φ : Nat → Option CF) (h76 : Φ 76 = some (.orc (pureO h88))) (h77 : Φ 77 = some (.orc (pureO h77))) {F : RO} {M0 M : Mem} {b c1 i : Nat} {s text : List UInt8} {w : List Pc} {sm : Bool} (ok0 : Okm F M0 b) (hi : i < s.length) (hs : s.length ≤ 400000) (hw : w.length ≤ 1000000) (ht : text.length ≤ 1000000) (h39 : s[i] = 39) (hW : WS M0 b s M c1 w text sm i) (u : List (Option V)) (Q : Ex → St → Prop)
  (hQ1 : ∀ (u : List (Option V)) M' c' k, stW (s.drop i) = some (some (k + 1, (s.drop (i + 1)).take k, false)) → i + (k + 2) ≤ s.length → WS M0 b s M' c' w (text ++ (s.drop (i + 1)).take k) true (i + (k + 2)) → Q (.gto 1) (.mk ((.n (.n (.n (.n (uv7 u 63 31 95 15 79 47 111) (some (.p (b + 5) 0)) (uv7 u 71 39 103 23 87 55 119)) (uO u 3) (.n (uv7 u 67 35 99 19 83 51 115) (uO u 11) (uv7 u 75 43 107 27 91 59 123))) (some (.p b 0)) (.n (.n (uv7 u 65 33 97 17 81 49 113) (some (fvS b)) (uv7 u 73 41 105 25 89 57 121)) (some (.p (b + 3) 0)) (.n (uv7 u 69 37 101 21 85 53 117) (uO u 13) (uv7 u 77 45 109 29 93 61 125)))) (uO u 0) (.n (.n (.n (uv7 u 64 32 96 16 80 48 112) (uO u 8) (uv7 u 72 40 104 24 88 56 120)) (some (.p (b + 2) 0)) (.n (uv7 u 68 36 100 20 84 52 116) (uO u 12) (uv7 u 76 44 108 28 92 60 124))) (some (.p (b + 1) 0)) (.n (.n (uv7 u 66 34 98 18 82 50 114) (uO u 10) (uv7 u 74 42 106 26 90 58 122)) (some (.p (b + 4) 0)) (.n (uv7 u 70 38 102 22 86 54 118) (uO u 14) (uv7 u 78 46 110 30 94 62 126)))))) [] M' c'))
  (hQ2 : stW (s.drop i) = some none → ∀ (u : List (Option V)) M' c', Gr b M0 c' M' → b + 6 ≤ c' → M'.get (b + 1) = some (rowB 36 [.l0]) → Q .ret (.mk ((.n (.n (.n (.n (uv7 u 63 31 95 15 79 47 111) (uO u 7) (uv7 u 71 39 103 23 87 55 119)) (some (.i .i64 0)) (.n (uv7 u 67 35 99 19 83 51 115) (uO u 11) (uv7 u 75 43 107 27 91 59 123))) (uO u 1) (.n (.n (uv7 u 65 33 97 17 81 49 113) (uO u 9) (uv7 u 73 41 105 25 89 57 121)) (uO u 5) (.n (uv7 u 69 37 101 21 85 53 117) (uO u 13) (uv7 u 77 45 109 29 93 61 125)))) (uO u 0) (.n (.n (.n (uv7 u 64 32 96 16 80 48 112) (uO u 8) (uv7 u 72 40 104 24 88 56 120)) (uO u 4) (.n (uv7 u 68 36 100 20 84 52 116) (uO u 12) (uv7 u 76 44 108 28 92 60 124))) (some (.p (b + 1) 0)) (.n (.n (uv7 u 66 34 98 18 82 50 114) (uO u 10) (uv7 u 74 42 106 26 90 58 122)) (uO u 6) (.n (uv7 u 70 38 102 22 86 54 118) (uO u 14) (uv7 u 78 46 110 30 94 62 126)))))) [] M' c')) :
  Wp (.seq .skip (.seq b56_58 b56_67)) (K Φ none 56 F) (.mk ((.n (.n (.n (.n (uv7 u 63 31 95 15 79 47 111) (some (.p (b + 5) 0)) (uv7 u 71 39 103 23 87 55 119)) (uO u 3) (.n (uv7 u 67 35 99 19 83 51 115) (uO u 11) (uv7 u 75 43 107 27 91 59 123))) (some (.p b 0)) (.n (.n (uv7 u 65 33 97 17 81 49 113) (some (fvS b)) (uv7 u 73 41 105 25 89 57 121)) (some (.p (b + 3) 0)) (.n (uv7 u 69 37 101 21 85 53 117) (uO u 13) (uv7 u 77 45 109 29 93 61 125)))) (uO u 0) (.n (.n (.n (uv7 u 64 32 96 16 80 48 112) (uO u 8) (uv7 u 72 40 104 24 88 56 120)) (some (.p (b + 2) 0)) (.n (uv7 u 68 36 100 20 84 52 116) (uO u 12) (uv7 u 76 44 108 28 92 60 124))) (some (.p (b + 1) 0)) (.n (.n (uv7 u 66 34 98 18 82 50 114) (uO u 10) (uv7 u 74 42 106 26 90 58 122)) (some (.p (b + 4) 0)) (.n (uv7 u 70 38 102 22 86 54 118) (uO u 14) (uv7 u 78 46 110 30 94 62 126)))))) [] M c1) Q := by
 have hW' := hW
 obtain ⟨v, tv, p1, p0, gr, h6, m0, m1, m2, m3, m4, m5, hA, hT0⟩ := hW
 have l0 : load1 F M b 0 = some (sV s) := load_row m0 0
 have l5 : load1 F M (b + 5) 0 = some (.i .i64 (i : Int)) := load_row m5 0
 have q1 : biV .add (.i .i64 (i : Int)) (.i .i64 1) = some (.i .i64 ((i + 1 : Nat) : Int)) := by rw [i64_add _ _ (by omega) (by omega)]; simp
 have hsl := sl_ln s .i64 (i + 1) hi
 have hdr : s.drop i = 39 :: s.drop (i + 1) := by rw [← h39]; exact List.drop_eq_getElem_cons hi
 have hf : h88 [sV (s.drop (i + 1)), .i .u8 39] = some (.i .i64 (idxZ (fnd 39 (s.drop (i + 1)) 0))) := h88_eq (s.drop (i + 1)) 39
 have st1 := store_row m1 0 [V.l0] (by simp) rfl
 have hG0 : flatten (V.g [V.l0]) = [V.l0] := rfl
 have BAD := fun h => hQ2 h
 cases hk : fnd 39 (s.drop (i + 1)) 0 with
 | none =>
   rw [hk] at hf
   have hst : stW (s.drop i) = some none := by rw [hdr]; exact stW_qnone hk
   have d1 : decide ((-1 : Int) < 0) = true := rfl
   have hz : idxZ none = -1 := rfl
   simp only [WX, Int.reduceLT, B56, l0, l5, q1, hsl, h76, hf, hz, hG0, st1]
   exact hQ2 hst [_, _, none, none, _, _, _, _, _, _, _, _, _, _, _, _, _, _, _, _, _, _, _, _, _, _, _, _, _, _, _, _, _, _, _, _, _, _, _, _, _, _, _, _, _, _, _, _, _, _, _, _, _, _, _, _, _, _, _, _, _, _, _, _, _, _, _, _, _, _, _, _, _, _, _, _, _, _, _, _, _, _, _, _, _, _, _, _, _, _, _, _, _, _, _, _, _, _, _, _, _, _, _, _, _, _, _, _, _, _, _, _, _, _, _, _, _, _, _, _, _, _, _, _, _, _, _] _ _ (gr.set (b + 1) _ (by omega) (by omega) (Nat.le_refl _)) h6 (get_same _ _ _)
 | some k =>
   rw [hk] at hf
   have hkl := (fnd_lt hk).2
   rw [List.length_drop] at hkl
   have d1 : decide ((k : Int) < 0) = false := decide_eq_false (by omega)
   have hz : idxZ (some k) = (k : Int) := rfl
   obtain ⟨j, hj⟩ : ∃ j, j = i + 1 + k := ⟨_, rfl⟩
   have q2 : biV .add (.i .i64 ((i + 1 : Nat) : Int)) (.i .i64 (k : Int)) = some (.i .i64 (j : Int)) := by rw [i64_add _ _ (by omega) (by omega), hj]; simp
   have hsl2 := sl_lh s .i64 .i64 (i + 1) j (by omega) (by omega)
   have hX : (s.take j).drop (i + 1) = (s.drop (i + 1)).take k := by rw [List.drop_take]; congr 1; omega
   rw [hX] at hsl2
   have hall := h77_eq ((s.drop (i + 1)).take k) (by rw [List.length_take, List.length_drop]; omega)
   cases ha : ((s.drop (i + 1)).take k).all qtB with
   | false =>
     rw [ha] at hall
     have hst : stW (s.drop i) = some none := by rw [hdr]; exact stW_qbad hk ha
     simp only [WX, B56, l0, l5, q1, q2, hsl, hsl2, h76, hf, hz, d1, h77, hall, hG0, st1]
     exact hQ2 hst [_, _, none, none, _, _, _, _, _, _, _, _, _, _, _, _, _, _, _, _, _, _, _, _, _, _, _, _, _, _, _, _, _, _, _, _, _, _, _, _, _, _, _, _, _, _, _, _, _, _, _, _, _, _, _, _, _, _, _, _, _, _, _, _, _, _, _, _, _, _, _, _, _, _, _, _, _, _, _, _, _, _, _, _, _, _, _, _, _, _, _, _, _, _, _, _, _, _, _, _, _, _, _, _, _, _, _, _, _, _, _, _, _, _, _, _, _, _, _, _, _, _, _, _, _, _, _] _ _ (gr.set (b + 1) _ (by omega) (by omega) (Nat.le_refl _)) h6 (get_same _ _ _)
   | true =>
     rw [ha] at hall
     have hst : stW (s.drop i) = some (some (k + 1, (s.drop (i + 1)).take k, false)) := by rw [hdr]; exact stW_qok hk ha
     simp only [WX, w56_58, w56_59, w56_61, w56_67, l0, l5, q1, q2, hsl, hsl2, h76, hf, hz, d1, h77, hall]
     refine d62 Φ ok0 (show i + 1 + k ≤ s.length by omega) hs hw ht hW' _ [_, none, none, _, none, none, none, none, none, none, _, _, _, _, _, _, _, _, _, _, _, _, _, _, _, _, _, _, _, _, _, _, _, _, _, _, _, _, _, _, _, _, _, _, _, _, _, _, _, _, _, _, _, _, _, _, _, _, _, _, _, _, _, _, _, _, _, _, _, _, _, _, _, _, _, _, _, _, _, _, _, _, _, _, _, _, _, _, _, _, _, _, _, _, _, _, _, _, _, _, _, _, _, _, _, _, _, _, _, _, _, _, _, _, _, _, _, _, _, _, _, _, _, _, _, _, _] _ ?_
     intro u M' c' hW2
     have hW3 := ws_at (j := i + (k + 2)) hW2
     obtain ⟨v, tv, p1, p0, gr, h6, m0, m1, m2, m3, m4, m5, hA, hT0⟩ := hW2
     have l5 : load1 F M' (b + 5) 0 = some (.i .i64 (i : Int)) := load_row m5 0
     obtain ⟨k2, hk2⟩ : ∃ k2, k2 = k + 2 := ⟨_, rfl⟩
     obtain ⟨j2, hj2⟩ : ∃ j2, j2 = i + (k + 2) := ⟨_, rfl⟩
     have q3 : biV .add (.i .i64 (k : Int)) (.i .i64 2) = some (.i .i64 (k2 : Int)) := by rw [i64_add _ _ (by omega) (by omega), hk2]; simp
     have q4 : biV .add (.i .i64 (i : Int)) (.i .i64 (k2 : Int)) = some (.i .i64 (j2 : Int)) := by rw [i64_add _ _ (by omega) (by omega), hj2, hk2]; simp
     have st5 := store_row m5 0 [V.i .i64 (j2 : Int)] (by simp) rfl
     rw [← hj2] at hW3
     simp only [WX, B56, l5, q3, q4, st5, wp_goto, seqQ_gto]
     exact hQ1 [_, none, none, _, none, none, none, none, _, none, _, _, _, _, _, _, _, _, _, _, _, _, _, _, _, _, _, _, _, _, _, _, _, _, _, _, _, _, _, _, _, _, _, _, _, _, _, _, _, _, _, _, _, _, _, _, _, _, _, _, _, _, _, _, _, _, _, _, _, _, _, _, _, _, _, _, _, _, _, _, _, _, _, _, _, _, _, _, _, _, _, _, _, _, _, _, _, _, _, _, _, _, _, _, _, _, _, _, _, _, _, _, _, _, _, _, _, _, _, _, _, _, _, _, _, _, _] _ _ k hst (by omega) (by rw [← hj2]; exact hW3)
theorem n56_1 (Φ : Nat → Option CF) (h55 : Φ 55 = some (.orc (pureO h55))) (h73 : Φ 73 = some (.orc (pureO h73))) (h75 : Φ 75 = some (.orc (pureO h75))) (h74 : Φ 74 = some c74) {F : RO} {M0 M : Mem} {b c1 i : Nat} {s text : List UInt8} {w : List Pc} {sm : Bool} (ok0 : Okm F M0 b) (hi : i ≤ s.length) (hs : s.length ≤ 400000) (hw : w.length ≤ 900000) (ht : text.length ≤ 900000) (hW : WS M0 b s M c1 w text sm i) (u : List (Option V)) (Q : Ex → St → Prop)
  (hQ0 : stW (s.drop i) = none → ∀ (u : List (Option V)), Q (.gto 0) (.mk ((.n (.n (.n (.n (uv7 u 63 31 95 15 79 47 111) (some (.p (b + 5) 0)) (uv7 u 71 39 103 23 87 55 119)) (uO u 3) (.n (uv7 u 67 35 99 19 83 51 115) (uO u 11) (uv7 u 75 43 107 27 91 59 123))) (some (.p b 0)) (.n (.n (uv7 u 65 33 97 17 81 49 113) (some (fvS b)) (uv7 u 73 41 105 25 89 57 121)) (some (.p (b + 3) 0)) (.n (uv7 u 69 37 101 21 85 53 117) (uO u 13) (uv7 u 77 45 109 29 93 61 125)))) (uO u 0) (.n (.n (.n (uv7 u 64 32 96 16 80 48 112) (uO u 8) (uv7 u 72 40 104 24 88 56 120)) (some (.p (b + 2) 0)) (.n (uv7 u 68 36 100 20 84 52 116) (uO u 12) (uv7 u 76 44 108 28 92 60 124))) (some (.p (b + 1) 0)) (.n (.n (uv7 u 66 34 98 18 82 50 114) (uO u 10) (uv7 u 74 42 106 26 90 58 122)) (some (.p (b + 4) 0)) (.n (uv7 u 70 38 102 22 86 54 118) (uO u 14) (uv7 u 78 46 110 30 94 62 126)))))) [] M c1))
  (hQ2 : ∀ h : i < s.length, s[i] = 39 → ∀ (u : List (Option V)), Q (.gto 2) (.mk ((.n (.n (.n (.n (uv7 u 63 31 95 15 79 47 111) (some (.p (b + 5) 0)) (uv7 u 71 39 103 23 87 55 119)) (uO u 3) (.n (uv7 u 67 35 99 19 83 51 115) (uO u 11) (uv7 u 75 43 107 27 91 59 123))) (some (.p b 0)) (.n (.n (uv7 u 65 33 97 17 81 49 113) (some (fvS b)) (uv7 u 73 41 105 25 89 57 121)) (some (.p (b + 3) 0)) (.n (uv7 u 69 37 101 21 85 53 117) (uO u 13) (uv7 u 77 45 109 29 93 61 125)))) (uO u 0) (.n (.n (.n (uv7 u 64 32 96 16 80 48 112) (uO u 8) (uv7 u 72 40 104 24 88 56 120)) (some (.p (b + 2) 0)) (.n (uv7 u 68 36 100 20 84 52 116) (uO u 12) (uv7 u 76 44 108 28 92 60 124))) (some (.p (b + 1) 0)) (.n (.n (uv7 u 66 34 98 18 82 50 114) (uO u 10) (uv7 u 74 42 106 26 90 58 122)) (some (.p (b + 4) 0)) (.n (uv7 u 70 38 102 22 86 54 118) (uO u 14) (uv7 u 78 46 110 30 94 62 126)))))) [] M c1))
  (hQ1 : ∀ (u : List (Option V)) M' c' j w' text' sm', i < j → j ≤ s.length → w'.length ≤ w.length + 2 → text'.length ≤ text.length + 1 → rdW (s.drop i) w text sm i = rdW (s.drop j) w' text' sm' j → WS M0 b s M' c' w' text' sm' j → Q (.gto 1) (.mk ((.n (.n (.n (.n (uv7 u 63 31 95 15 79 47 111) (some (.p (b + 5) 0)) (uv7 u 71 39 103 23 87 55 119)) (uO u 3) (.n (uv7 u 67 35 99 19 83 51 115) (uO u 11) (uv7 u 75 43 107 27 91 59 123))) (some (.p b 0)) (.n (.n (uv7 u 65 33 97 17 81 49 113) (some (fvS b)) (uv7 u 73 41 105 25 89 57 121)) (some (.p (b + 3) 0)) (.n (uv7 u 69 37 101 21 85 53 117) (uO u 13) (uv7 u 77 45 109 29 93 61 125)))) (uO u 0) (.n (.n (.n (uv7 u 64 32 96 16 80 48 112) (uO u 8) (uv7 u 72 40 104 24 88 56 120)) (some (.p (b + 2) 0)) (.n (uv7 u 68 36 100 20 84 52 116) (uO u 12) (uv7 u 76 44 108 28 92 60 124))) (some (.p (b + 1) 0)) (.n (.n (uv7 u 66 34 98 18 82 50 114) (uO u 10) (uv7 u 74 42 106 26 90 58 122)) (some (.p (b + 4) 0)) (.n (uv7 u 70 38 102 22 86 54 118) (uO u 14) (uv7 u 78 46 110 30 94 62 126)))))) [] M' c'))
  (hQ3 : stW (s.drop i) = some none → ∀ (u : List (Option V)) M' c', Gr b M0 c' M' → b + 6 ≤ c' → M'.get (b + 1) = some (rowB 36 [.l0]) → Q .ret (.mk ((.n (.n (.n (.n (uv7 u 63 31 95 15 79 47 111) (uO u 7) (uv7 u 71 39 103 23 87 55 119)) (some (.i .i64 0)) (.n (uv7 u 67 35 99 19 83 51 115) (uO u 11) (uv7 u 75 43 107 27 91 59 123))) (uO u 1) (.n (.n (uv7 u 65 33 97 17 81 49 113) (uO u 9) (uv7 u 73 41 105 25 89 57 121)) (uO u 5) (.n (uv7 u 69 37 101 21 85 53 117) (uO u 13) (uv7 u 77 45 109 29 93 61 125)))) (uO u 0) (.n (.n (.n (uv7 u 64 32 96 16 80 48 112) (uO u 8) (uv7 u 72 40 104 24 88 56 120)) (uO u 4) (.n (uv7 u 68 36 100 20 84 52 116) (uO u 12) (uv7 u 76 44 108 28 92 60 124))) (some (.p (b + 1) 0)) (.n (.n (uv7 u 66 34 98 18 82 50 114) (uO u 10) (uv7 u 74 42 106 26 90 58 122)) (uO u 6) (.n (uv7 u 70 38 102 22 86 54 118) (uO u 14) (uv7 u 78 46 110 30 94 62 126)))))) [] M' c')) :
  Wp (.seq .skip (.seq b56_34 b56_57)) (K Φ none 56 F) (.mk ((.n (.n (.n (.n (uv7 u 63 31 95 15 79 47 111) (some (.p (b + 5) 0)) (uv7 u 71 39 103 23 87 55 119)) (uO u 3) (.n (uv7 u 67 35 99 19 83 51 115) (uO u 11) (uv7 u 75 43 107 27 91 59 123))) (some (.p b 0)) (.n (.n (uv7 u 65 33 97 17 81 49 113) (some (fvS b)) (uv7 u 73 41 105 25 89 57 121)) (some (.p (b + 3) 0)) (.n (uv7 u 69 37 101 21 85 53 117) (uO u 13) (uv7 u 77 45 109 29 93 61 125)))) (uO u 0) (.n (.n (.n (uv7 u 64 32 96 16 80 48 112) (uO u 8) (uv7 u 72 40 104 24 88 56 120)) (some (.p (b + 2) 0)) (.n (uv7 u 68 36 100 20 84 52 116) (uO u 12) (uv7 u 76 44 108 28 92 60 124))) (some (.p (b + 1) 0)) (.n (.n (uv7 u 66 34 98 18 82 50 114) (uO u 10) (uv7 u 74 42 106 26 90 58 122)) (some (.p (b + 4) 0)) (.n (uv7 u 70 38 102 22 86 54 118) (uO u 14) (uv7 u 78 46 110 30 94 62 126)))))) [] M c1) Q := by
 have hW' := hW
 obtain ⟨v, tv, p1, p0, gr, h6, m0, m1, m2, m3, m4, m5, hA, hT0⟩ := hW
 have l0 : load1 F M b 0 = some (sV s) := load_row m0 0
 have l5 : load1 F M (b + 5) 0 = some (.i .i64 (i : Int)) := load_row m5 0
 have st1 := store_row m1 0 [V.l0] (by simp) rfl
 have hG0 : flatten (V.g [V.l0]) = [V.l0] := rfl
 by_cases hlt : i < s.length
 · have d0 : decide ((i : Int) = (s.length : Int)) = false := decide_eq_false (by omega)
   have hix : ixSV (sV s) (.i .i64 (i : Int)) = some (.i .u8 ((s[i]).toNat : Int)) := ixSs s .i64 i hlt
   have hdr : s.drop i = s[i] :: s.drop (i + 1) := List.drop_eq_getElem_cons hlt
   have hsl : slSV (sV s) (some (.i .i64 (i : Int))) none = some (sV (s[i] :: s.drop (i + 1))) := by rw [← hdr]; exact sl_ln s .i64 i hi
   have hgt : s[i]? = some s[i] := List.getElem?_eq_getElem hlt
   have hsg := h55_eq (s[i] :: s.drop (i + 1))
   rw [sgn_eq] at hsg
   have hxn : ∀ k : UInt8, decide (((s[i]).toNat : Int) = (k.toNat : Int)) = decide (s[i] = k) := fun k => by congr 1; exact propext ⟨fun e => UInt8.toNat_inj.1 (by omega), fun e => by rw [e]⟩
   have x32 := hxn 32; have x38 := hxn 38; have x39 := hxn 39
   simp only [UInt8.reduceToNat, Int.cast_ofNat_Int] at x32 x38 x39
   have qsg := bi_sne (sgnR (s[i] :: s.drop (i + 1))) []
   have e0 : V.s 0 0 = sV [] := rfl
   rw [← e0] at qsg
   clear hxn
   rw [hdr] at hQ0 hQ1 hQ3
   have hpf : Ev.h73 [sV (s[i] :: s.drop (i + 1)), .s 2 16164] = some (V.b (pfx [36, 63] (s[i] :: s.drop (i + 1)))) := h73_eq _ [36, 63]
   have hh75 : Ev.h75 [.i .u8 ((s[i]).toNat : Int)] = some (V.b (plB s[i])) := h75_eq s[i]
   by_cases hst : s[i] = 32 ∨ sgnR (s[i] :: s.drop (i + 1)) ≠ [] ∨ s[i] = 38
   · have hno := stW_no hst
     by_cases h1 : s[i] = 32
     · rw [decide_eq_true h1] at x32
       simp only [WX, w56_33, w56_34, l0, l5, d0, hix, x32, wp_goto, seqQ_gto]
       exact hQ0 hno [_, none, none, _, none, none, none, none, _, none, _, _, _, _, _, _, _, _, _, _, _, _, _, _, _, _, _, _, _, _, _, _, _, _, _, _, _, _, _, _, _, _, _, _, _, _, _, _, _, _, _, _, _, _, _, _, _, _, _, _, _, _, _, _, _, _, _, _, _, _, _, _, _, _, _, _, _, _, _, _, _, _, _, _, _, _, _, _, _, _, _, _, _, _, _, _, _, _, _, _, _, _, _, _, _, _, _, _, _, _, _, _, _, _, _, _, _, _, _, _, _, _, _, _, _, _, _]
     · rw [decide_eq_false h1] at x32
       by_cases h2 : s[i] = 38
       · rw [decide_eq_true h2] at x38
         simp only [WX, w56_33, w56_34, l0, l5, d0, hix, x32, x38, wp_goto, seqQ_gto]
         exact hQ0 hno [_, none, none, _, none, none, none, none, _, none, _, _, _, _, _, _, _, _, _, _, _, _, _, _, _, _, _, _, _, _, _, _, _, _, _, _, _, _, _, _, _, _, _, _, _, _, _, _, _, _, _, _, _, _, _, _, _, _, _, _, _, _, _, _, _, _, _, _, _, _, _, _, _, _, _, _, _, _, _, _, _, _, _, _, _, _, _, _, _, _, _, _, _, _, _, _, _, _, _, _, _, _, _, _, _, _, _, _, _, _, _, _, _, _, _, _, _, _, _, _, _, _, _, _, _, _, _]
       · rw [decide_eq_false h2] at x38
         have h3 : sgnR (s[i] :: s.drop (i + 1)) ≠ [] := by
          rcases hst with h | h | h
          · exact absurd h h1
          · exact h
          · exact absurd h h2
         rw [decide_eq_false h3] at qsg
         simp only [WX, w56_33, w56_34, l0, l5, d0, hix, x32, x38, hsl, h55, hsg, qsg, wp_goto, seqQ_gto]
         exact hQ0 hno [_, none, none, _, none, none, none, none, _, none, _, _, _, _, _, _, _, _, _, _, _, _, _, _, _, _, _, _, _, _, _, _, _, _, _, _, _, _, _, _, _, _, _, _, _, _, _, _, _, _, _, _, _, _, _, _, _, _, _, _, _, _, _, _, _, _, _, _, _, _, _, _, _, _, _, _, _, _, _, _, _, _, _, _, _, _, _, _, _, _, _, _, _, _, _, _, _, _, _, _, _, _, _, _, _, _, _, _, _, _, _, _, _, _, _, _, _, _, _, _, _, _, _, _, _, _, _]
   · obtain ⟨n32, n2, n38⟩ : s[i] ≠ 32 ∧ sgnR (s[i] :: s.drop (i + 1)) = [] ∧ s[i] ≠ 38 := ⟨fun e => hst (.inl e), Classical.byContradiction fun e => hst (.inr (.inl e)), fun e => hst (.inr (.inr e))⟩
     rw [decide_eq_false n32] at x32
     rw [decide_eq_false n38] at x38
     rw [decide_eq_true n2] at qsg
     by_cases h39 : s[i] = 39
     · rw [decide_eq_true h39] at x39
       simp only [WX, B56, l0, l5, d0, hix, x32, x38, hsl, h55, hsg, qsg, x39, wp_goto, seqQ_gto, blockQ_gto]
       exact hQ2 hlt h39 [_, none, none, _, none, none, none, none, _, none, _, _, _, _, _, _, _, _, _, _, _, _, _, _, _, _, _, _, _, _, _, _, _, _, _, _, _, _, _, _, _, _, _, _, _, _, _, _, _, _, _, _, _, _, _, _, _, _, _, _, _, _, _, _, _, _, _, _, _, _, _, _, _, _, _, _, _, _, _, _, _, _, _, _, _, _, _, _, _, _, _, _, _, _, _, _, _, _, _, _, _, _, _, _, _, _, _, _, _, _, _, _, _, _, _, _, _, _, _, _, _, _, _, _, _, _, _]
     · rw [decide_eq_false h39] at x39
       by_cases hpx : pfx [36, 63] (s[i] :: s.drop (i + 1)) = true
       · rw [hpx] at hpf
         obtain ⟨h36, t2, ht2⟩ : s[i] = 36 ∧ ∃ t2, s.drop (i + 1) = 63 :: t2 := by
          cases hd : s.drop (i + 1) with
          | nil => rw [hd, pfx21] at hpx; cases hpx
          | cons y t2 =>
            rw [hd, pfx2, Bool.and_eq_true] at hpx
            exact ⟨of_decide_eq_true hpx.1, t2, by rw [of_decide_eq_true hpx.2]⟩
         have hl2 : i + 2 ≤ s.length := by
          have := congrArg List.length ht2
          rw [List.length_drop, List.length_cons] at this
          omega
         have hstat : stW (s[i] :: s.drop (i + 1)) = some (some (1, [], true)) := by
          rw [h36] at hst ⊢
          rw [stW_36 hst, ht2]; rfl
         have hnext : rdW (s[i] :: s.drop (i + 1)) w text sm i = rdW (s.drop (i + 2)) (rdMid w text) [] false (i + 2) := by
          rw [rdW_stat hstat, List.drop_succ_cons, List.drop_drop]
         simp only [WX, w56_33, w56_34, w56_35, w56_36, w56_37, w56_45, w56_46, w56_57, l0, l5, d0, hix, x32, x38, hsl, h55, hsg, qsg, x39, h73, hpf]
         refine putE_to ((r74 Φ h74 ok0 hi hs (by omega) (by omega) hW').mono ?_)
         rintro r M2 c2 ⟨hW2, hle⟩
         obtain ⟨v2, tv2, q1, q2, gr2, h62, n0, n1, n2', n3, n4, n5, hA2, hT2⟩ := hW2
         obtain ⟨q1, hA2, hne⟩ : ∃ q, AccAt M2 (b + 6) c2 q 64 2 v2 (pcE (flW w text sm (decide (s[i]? = some 36)))) ∧ (q ≠ q2 ∨ tv2 = .l0) := by
          rcases acc_ne (text := []) hA2 hT2 with ⟨rfl, _⟩ | ⟨rfl, e2⟩ | hn
          · exact ⟨q1, hA2, .inr rfl⟩
          · rw [e2]; exact ⟨q2 + 1, AccAt.nil, .inl (by omega)⟩
          · exact ⟨q1, hA2, .inl hn⟩
         have ok2 := gr2.ok ok0
         have l2 : load1 F M2 (b + 2) 0 = some v2 := load_row n2' 0
         have hFb : flatten (V.b true) = [V.b true] := rfl
         have hR1 : replL [V.s 0 0, V.b false] 1 [V.b true] = some [V.s 0 0, V.b true] := rfl
         have hG2 : flatten (V.g [V.s 0 0, V.b true]) = [V.s 0 0, V.b true] := rfl
         have hfl : (flW w text sm (decide (s[i]? = some 36))).length ≤ w.length + 1 := by unfold flW; split <;> simp
         simp only [WX, Nat.reduceAdd, w56_38, l2, hFb, hR1, hG2]
         refine putE_to ((pc_push ([], true) hA2 ok2 h62 (by omega)).mono ?_)
         rintro v3 M3 c3 ⟨q3, hA3, gr3, hle3, hold⟩
         obtain ⟨w1, w2, w3⟩ := acc_one hA3
         have k2 := (gr3.old (b + 2) (by omega)).trans n2'
         have k5 := (gr3.old (b + 5) (by omega)).trans n5
         have st2 := store_row k2 0 [v3] (by simp) w3
         have k5' : (M3.set (b + 2) (rowB 34 [v3])).get (b + 5) = some (rowB 3 [.i .i64 (i : Int)]) := (get_ne _ _ (by omega)).trans k5
         have l5' : load1 F (M3.set (b + 2) (rowB 34 [v3])) (b + 5) 0 = some (.i .i64 (i : Int)) := load_row k5' 0
         have q2' : biV .add (.i .i64 (i : Int)) (.i .i64 2) = some (.i .i64 ((i + 2 : Nat) : Int)) := by rw [i64_add _ _ (by omega) (by omega)]; simp
         have st5 := store_row k5' 0 [V.i .i64 ((i + 2 : Nat) : Int)] (by simp) rfl
         have grF : Gr b M0 c3 M3 := ⟨by omega, fun x hx => (gr3.old x (by omega)).trans (gr2.old x hx), gr3.new⟩
         have hT3 : AccAt M3 (b + 6) c3 q2 5 1 tv2 (bE []) := by
          rcases hT2 with ⟨h0, hh | ⟨h1, h2, h3, h4⟩⟩
          · exact ⟨h0, .inl hh⟩
          · rcases hne with hne | hne
            · exact ⟨h0, .inr ⟨h1, by omega, h3, by rw [hold q2 (by omega) (fun e => hne e.symm)]; exact h4⟩⟩
            · rw [hne]; exact AccAt.nil
         rw [flW_mid (by rw [hgt, h36])] at hA3
         simp only [WX, B56, w2, st2, l5', q2', st5, wp_goto, seqQ_gto]
         refine hQ1 [_, none, none, _, none, none, none, none, _, none, _, _, _, _, _, _, _, _, _, _, _, _, _, _, _, _, _, _, _, _, _, _, _, _, _, _, _, _, _, _, _, _, _, _, _, _, _, _, _, _, _, _, _, _, _, _, _, _, _, _, _, _, _, _, _, _, _, _, _, _, _, _, _, _, _, _, _, _, _, _, _, _, _, _, _, _, _, _, _, _, _, _, _, _, _, _, _, _, _, _, _, _, _, _, _, _, _, _, _, _, _, _, _, _, _, _, _, _, _, _, _, _, _, _, _, _, _] _ _ (i + 2) (rdMid w text) [] false (by omega) hl2 (by unfold rdMid; split <;> simp) (Nat.zero_le _) hnext ?_
         exact ⟨v3, tv2, q3, q2, (grF.set (b + 2) _ (by omega) (by omega) (Nat.le_refl _)).set (b + 5) _ (by omega) (by omega) (Nat.le_refl _), by omega, by rw [get_ne _ _ (by omega), get_ne _ _ (by omega)]; exact (gr3.old b (by omega)).trans n0, by rw [get_ne _ _ (by omega), get_ne _ _ (by omega)]; exact (gr3.old (b + 1) (by omega)).trans n1, by rw [get_ne _ _ (by omega)]; exact get_same _ _ _, by rw [get_ne _ _ (by omega), get_ne _ _ (by omega)]; exact (gr3.old (b + 3) (by omega)).trans n3, by rw [get_ne _ _ (by omega), get_ne _ _ (by omega)]; exact (gr3.old (b + 4) (by omega)).trans n4, get_same _ _ _, acc_set2 (acc_set2 hA3 (by omega)) (by omega), acc_set2 (acc_set2 hT3 (by omega)) (by omega)⟩
       · rw [show pfx [36, 63] (s[i] :: s.drop (i + 1)) = false by simpa using hpx] at hpf
         have hnx : plB s[i] = true → stW (s[i] :: s.drop (i + 1)) = some (some (0, [s[i]], false)) := by
          intro hp
          have h36 : s[i] ≠ 36 := fun e => by rw [e] at hp; exact absurd hp (by decide)
          rw [stW_x hst h39 h36, if_pos hp]
         have hbad : plB s[i] = false → stW (s[i] :: s.drop (i + 1)) = some none := by
          intro hp
          by_cases h36 : s[i] = 36
          · have hh : (s.drop (i + 1)).head? ≠ some 63 := by
             intro e
             apply hpx
             cases hd : s.drop (i + 1) with
             | nil => rw [hd] at e; cases e
             | cons y t2 =>
               rw [hd] at e
               rw [pfx2, h36, show y = 63 from Option.some.inj e]; rfl
            rw [h36] at hst ⊢
            rw [stW_36 hst, if_neg hh]
          · rw [stW_x hst h39 h36, if_neg (by rw [hp]; decide)]
         cases hp : plB s[i] with
         | true =>
           rw [hp] at hh75
           simp only [WX, w56_33, w56_34, w56_35, w56_36, w56_40, w56_44, w56_45, w56_46, w56_57, l0, l5, d0, hix, x32, x38, hsl, h55, hsg, qsg, x39, h73, hpf, h75, hh75]
           refine d41 Φ ok0 hlt hs (by omega) (by omega) hW' _ [_, none, none, _, none, none, none, none, _, none, _, _, _, _, _, _, _, _, _, _, _, _, _, _, _, _, _, _, _, _, _, _, _, _, _, _, _, _, _, _, _, _, _, _, _, _, _, _, _, _, _, _, _, _, _, _, _, _, _, _, _, _, _, _, _, _, _, _, _, _, _, _, _, _, _, _, _, _, _, _, _, _, _, _, _, _, _, _, _, _, _, _, _, _, _, _, _, _, _, _, _, _, _, _, _, _, _, _, _, _, _, _, _, _, _, _, _, _, _, _, _, _, _, _, _, _, _] _ ?_
           intro u M' c' hW2
           have hW3 := ws_at (j := i + 1) hW2
           obtain ⟨v, tv, p1, p0, gr, h6, m0, m1, m2, m3, m4, m5, hA, hT0⟩ := hW2
           have l5 : load1 F M' (b + 5) 0 = some (.i .i64 (i : Int)) := load_row m5 0
           have q3 : biV .add (.i .i64 (i : Int)) (.i .i64 1) = some (.i .i64 ((i + 1 : Nat) : Int)) := by rw [i64_add _ _ (by omega) (by omega)]; simp
           have st5 := store_row m5 0 [V.i .i64 ((i + 1 : Nat) : Int)] (by simp) rfl
           simp only [WX, B56, l5, q3, st5, wp_goto, seqQ_gto]
           refine hQ1 [_, none, none, _, none, none, none, none, _, none, _, _, _, _, _, _, _, _, _, _, _, _, _, _, _, _, _, _, _, _, _, _, _, _, _, _, _, _, _, _, _, _, _, _, _, _, _, _, _, _, _, _, _, _, _, _, _, _, _, _, _, _, _, _, _, _, _, _, _, _, _, _, _, _, _, _, _, _, _, _, _, _, _, _, _, _, _, _, _, _, _, _, _, _, _, _, _, _, _, _, _, _, _, _, _, _, _, _, _, _, _, _, _, _, _, _, _, _, _, _, _, _, _, _, _, _, _] _ _ (i + 1) w (text ++ [s[i]]) true (by omega) hlt (by omega) (by simp) ?_ hW3
           rw [rdW_text (hnx hp)]; rfl
         | false =>
           rw [hp] at hh75
           simp only [WX, B56, l0, l5, d0, hix, x32, x38, hsl, h55, hsg, qsg, x39, h73, hpf, h75, hh75, hG0, st1]
           exact hQ3 (hbad hp) [_, _, none, none, _, _, _, _, _, _, _, _, _, _, _, _, _, _, _, _, _, _, _, _, _, _, _, _, _, _, _, _, _, _, _, _, _, _, _, _, _, _, _, _, _, _, _, _, _, _, _, _, _, _, _, _, _, _, _, _, _, _, _, _, _, _, _, _, _, _, _, _, _, _, _, _, _, _, _, _, _, _, _, _, _, _, _, _, _, _, _, _, _, _, _, _, _, _, _, _, _, _, _, _, _, _, _, _, _, _, _, _, _, _, _, _, _, _, _, _, _, _, _, _, _, _, _] _ _ (gr.set (b + 1) _ (by omega) (by omega) (Nat.le_refl _)) h6 (get_same _ _ _)
 · obtain rfl : i = s.length := by omega
   have d0 : decide ((s.length : Int) = (s.length : Int)) = true := decide_eq_true rfl
   have hno : stW (s.drop s.length) = none := by rw [List.drop_length]; rfl
   simp only [WX, w56_33, w56_34, l0, l5, wp_goto, seqQ_gto]
   exact hQ0 hno [_, none, none, _, none, none, none, none, _, none, _, _, _, _, _, _, _, _, _, _, _, _, _, _, _, _, _, _, _, _, _, _, _, _, _, _, _, _, _, _, _, _, _, _, _, _, _, _, _, _, _, _, _, _, _, _, _, _, _, _, _, _, _, _, _, _, _, _, _, _, _, _, _, _, _, _, _, _, _, _, _, _, _, _, _, _, _, _, _, _, _, _, _, _, _, _, _, _, _, _, _, _, _, _, _, _, _, _, _, _, _, _, _, _, _, _, _, _, _, _, _, _, _, _, _, _, _]
theorem r56 (Φ : Nat → Option CF) (h : Φ 56 = some c56) (h55 : Φ 55 = some (.orc (pureO h55))) (h73 : Φ 73 = some (.orc (pureO h73))) (h75 : Φ 75 = some (.orc (pureO h75))) (h76 : Φ 76 = some (.orc (pureO h88))) (h77 : Φ 77 = some (.orc (pureO h77))) (h74 : Φ 74 = some c74) {F : RO} {M : Mem} {c : Nat} (ok : Okm F M c) (s : List UInt8) (hs : s.length ≤ 400000) :
  Calls Φ F 56 [sV s] M c fun r M' c' => WdP F s c r M' c' ∧ Gr c M c' M' := by
 refine calls_walk h ?_
 have hF : ∀ w, flatten (sV w) = [sV w] := fun _ => rfl
 have aS : ∀ w, allOne [sV w] = true := fun _ => rfl
 simp only [WX, Nat.reduceAdd, B56, hF, aS]
 obtain ⟨I, hI⟩ : ∃ I : Nat → Nat → St → Prop, ∀ n l st, I n l st ↔ (∃ (i : Nat) (M1 : Mem) (c1 : Nat) (w : List Pc) (text : List UInt8) (sm : Bool) (u : List (Option V)), i ≤ s.length ∧ st = .mk ((.n (.n (.n (.n (uv7 u 63 31 95 15 79 47 111) (some (.p (c + 5) 0)) (uv7 u 71 39 103 23 87 55 119)) (uO u 3) (.n (uv7 u 67 35 99 19 83 51 115) (uO u 11) (uv7 u 75 43 107 27 91 59 123))) (some (.p c 0)) (.n (.n (uv7 u 65 33 97 17 81 49 113) (some (fvS c)) (uv7 u 73 41 105 25 89 57 121)) (some (.p (c + 3) 0)) (.n (uv7 u 69 37 101 21 85 53 117) (uO u 13) (uv7 u 77 45 109 29 93 61 125)))) (uO u 0) (.n (.n (.n (uv7 u 64 32 96 16 80 48 112) (uO u 8) (uv7 u 72 40 104 24 88 56 120)) (some (.p (c + 2) 0)) (.n (uv7 u 68 36 100 20 84 52 116) (uO u 12) (uv7 u 76 44 108 28 92 60 124))) (some (.p (c + 1) 0)) (.n (.n (uv7 u 66 34 98 18 82 50 114) (uO u 10) (uv7 u 74 42 106 26 90 58 122)) (some (.p (c + 4) 0)) (.n (uv7 u 70 38 102 22 86 54 118) (uO u 14) (uv7 u 78 46 110 30 94 62 126)))))) [] M1 c1 ∧ w.length ≤ 2 * i ∧ text.length ≤ i ∧ WS M c s M1 c1 w text sm i ∧ rdW s [] [] false 0 = rdW (s.drop i) w text sm i ∧ ((l = 1 ∧ n = 2 * (s.length - i) + 2) ∨ (l = 2 ∧ n = 2 * (s.length - i) + 1 ∧ ∃ hi : i < s.length, s[i] = 39) ∨ (l = 0 ∧ n = 0 ∧ stW (s.drop i) = none))) := ⟨fun n l st => _, fun _ _ _ => Iff.rfl⟩
 have FIN : ∀ (u : List (Option V)) (M' : Mem) (c' : Nat) (v : V) (p i : Nat) (w : List Pc), i ≤ s.length → rdW s [] [] false 0 = some (w, i) → Gr c M c' M' → c + 6 ≤ c' → M'.get (c + 1) = some (rowB 36 [v]) → AccAt M' (c + 6) c' p 64 2 v (pcE w) → endQ F [.cn (.r .h) 1, .t (.l (.l .h))] (fun r M' c' => WdP F s c r M' c' ∧ Gr c M c' M') .ret (.mk ((.n (.n (.n (.n (uv7 u 63 31 95 15 79 47 111) (uO u 7) (uv7 u 71 39 103 23 87 55 119)) (some (.i .i64 (i : Int))) (.n (uv7 u 67 35 99 19 83 51 115) (uO u 11) (uv7 u 75 43 107 27 91 59 123))) (uO u 1) (.n (.n (uv7 u 65 33 97 17 81 49 113) (uO u 9) (uv7 u 73 41 105 25 89 57 121)) (uO u 5) (.n (uv7 u 69 37 101 21 85 53 117) (uO u 13) (uv7 u 77 45 109 29 93 61 125)))) (uO u 0) (.n (.n (.n (uv7 u 64 32 96 16 80 48 112) (uO u 8) (uv7 u 72 40 104 24 88 56 120)) (uO u 4) (.n (uv7 u 68 36 100 20 84 52 116) (uO u 12) (uv7 u 76 44 108 28 92 60 124))) (some (.p (c + 1) 0)) (.n (.n (uv7 u 66 34 98 18 82 50 114) (uO u 10) (uv7 u 74 42 106 26 90 58 122)) (uO u 6) (.n (uv7 u 70 38 102 22 86 54 118) (uO u 14) (uv7 u 78 46 110 30 94 62 126)))))) [] M' c') := by
  intro u M' c' v p i w hi hr g h6 hm hA
  obtain ⟨w1, w2, w3⟩ := acc_one hA
  have hld := loadN_row (F := F) hm 1 rfl
  simp only [WX, hld]
  exact ⟨.inl ⟨w, i, v, hr, hi, rfl, p, acc_low hA (by omega)⟩, g⟩
 have BAD : ∀ (u : List (Option V)) (M' : Mem) (c' : Nat), rdW s [] [] false 0 = none → Gr c M c' M' → c + 6 ≤ c' → M'.get (c + 1) = some (rowB 36 [.l0]) → endQ F [.cn (.r .h) 1, .t (.l (.l .h))] (fun r M' c' => WdP F s c r M' c' ∧ Gr c M c' M') .ret (.mk ((.n (.n (.n (.n (uv7 u 63 31 95 15 79 47 111) (uO u 7) (uv7 u 71 39 103 23 87 55 119)) (some (.i .i64 0)) (.n (uv7 u 67 35 99 19 83 51 115) (uO u 11) (uv7 u 75 43 107 27 91 59 123))) (uO u 1) (.n (.n (uv7 u 65 33 97 17 81 49 113) (uO u 9) (uv7 u 73 41 105 25 89 57 121)) (uO u 5) (.n (uv7 u 69 37 101 21 85 53 117) (uO u 13) (uv7 u 77 45 109 29 93 61 125)))) (uO u 0) (.n (.n (.n (uv7 u 64 32 96 16 80 48 112) (uO u 8) (uv7 u 72 40 104 24 88 56 120)) (uO u 4) (.n (uv7 u 68 36 100 20 84 52 116) (uO u 12) (uv7 u 76 44 108 28 92 60 124))) (some (.p (c + 1) 0)) (.n (.n (uv7 u 66 34 98 18 82 50 114) (uO u 10) (uv7 u 74 42 106 26 90 58 122)) (uO u 6) (.n (uv7 u 70 38 102 22 86 54 118) (uO u 14) (uv7 u 78 46 110 30 94 62 126)))))) [] M' c') := by
  intro u M' c' hr g h6 hm
  have hld := loadN_row (F := F) hm 1 rfl
  simp only [WX, hld]
  exact ⟨.inr ⟨hr, rfl⟩, g⟩
 have L1 : ∀ (i : Nat) (M1 : Mem) (c1 : Nat) (w : List Pc) (text : List UInt8) (sm : Bool) (u : List (Option V)), i ≤ s.length → w.length ≤ 2 * i → text.length ≤ i → WS M c s M1 c1 w text sm i → rdW s [] [] false 0 = rdW (s.drop i) w text sm i → Wp (.seq .skip (.seq b56_34 b56_57)) (K Φ none 56 F) (.mk ((.n (.n (.n (.n (uv7 u 63 31 95 15 79 47 111) (some (.p (c + 5) 0)) (uv7 u 71 39 103 23 87 55 119)) (uO u 3) (.n (uv7 u 67 35 99 19 83 51 115) (uO u 11) (uv7 u 75 43 107 27 91 59 123))) (some (.p c 0)) (.n (.n (uv7 u 65 33 97 17 81 49 113) (some (fvS c)) (uv7 u 73 41 105 25 89 57 121)) (some (.p (c + 3) 0)) (.n (uv7 u 69 37 101 21 85 53 117) (uO u 13) (uv7 u 77 45 109 29 93 61 125)))) (uO u 0) (.n (.n (.n (uv7 u 64 32 96 16 80 48 112) (uO u 8) (uv7 u 72 40 104 24 88 56 120)) (some (.p (c + 2) 0)) (.n (uv7 u 68 36 100 20 84 52 116) (uO u 12) (uv7 u 76 44 108 28 92 60 124))) (some (.p (c + 1) 0)) (.n (.n (uv7 u 66 34 98 18 82 50 114) (uO u 10) (uv7 u 74 42 106 26 90 58 122)) (some (.p (c + 4) 0)) (.n (uv7 u 70 38 102 22 86 54 118) (uO u 14) (uv7 u 78 46 110 30 94 62 126)))))) [] M1 c1) (scopeQ I (2 * (s.length - i) + 2) (endQ F [.cn (.r .h) 1, .t (.l (.l .h))] (fun r M' c' => WdP F s c r M' c' ∧ Gr c M c' M'))) := by
  intro i M1 c1 w text sm u hi hw ht hW hr
  refine n56_1 Φ h55 h73 h75 h74 ok hi hs (by omega) (by omega) hW [_, none, none, _, none, none, none, none, _, none, _, _, _, _, _, _, _, _, _, _, _, _, _, _, _, _, _, _, _, _, _, _, _, _, _, _, _, _, _, _, _, _, _, _, _, _, _, _, _, _, _, _, _, _, _, _, _, _, _, _, _, _, _, _, _, _, _, _, _, _, _, _, _, _, _, _, _, _, _, _, _, _, _, _, _, _, _, _, _, _, _, _, _, _, _, _, _, _, _, _, _, _, _, _, _, _, _, _, _, _, _, _, _, _, _, _, _, _, _, _, _, _, _, _, _, _, _] _ ?_ ?_ ?_ ?_
  · intro hst u
    rw [scopeQ_gto]
    exact ⟨0, by omega, (hI _ _ _).2 ⟨i, M1, c1, w, text, sm, _, hi, rfl, hw, ht, hW, hr, .inr (.inr ⟨rfl, rfl, hst⟩)⟩⟩
  · intro hlt h39 u
    rw [scopeQ_gto]
    exact ⟨2 * (s.length - i) + 1, by omega, (hI _ _ _).2 ⟨i, M1, c1, w, text, sm, _, hi, rfl, hw, ht, hW, hr, .inr (.inl ⟨rfl, rfl, hlt, h39⟩)⟩⟩
  · intro u M' c' j w' text' sm' h1 h2 h3 h4 h5 h6
    rw [scopeQ_gto]
    exact ⟨2 * (s.length - j) + 2, by omega, (hI _ _ _).2 ⟨j, M', c', w', text', sm', _, h2, rfl, by omega, by omega, h6, hr.trans h5, .inl ⟨rfl, rfl⟩⟩⟩
  · intro hst u M' c' g h6 hm
    rw [scopeQ_ret]
    exact BAD _ M' c' (hr.trans (rdW_bad hst)) g h6 hm
 have L2 : ∀ (i : Nat) (M1 : Mem) (c1 : Nat) (w : List Pc) (text : List UInt8) (sm : Bool) (u : List (Option V)), i ≤ s.length → w.length ≤ 2 * i → text.length ≤ i → WS M c s M1 c1 w text sm i → rdW s [] [] false 0 = rdW (s.drop i) w text sm i → Wp b56_6 (K Φ none 56 F) (.mk ((.n (.n (.n (.n (uv7 u 63 31 95 15 79 47 111) (some (.p (c + 5) 0)) (uv7 u 71 39 103 23 87 55 119)) (uO u 3) (.n (uv7 u 67 35 99 19 83 51 115) (uO u 11) (uv7 u 75 43 107 27 91 59 123))) (some (.p c 0)) (.n (.n (uv7 u 65 33 97 17 81 49 113) (some (fvS c)) (uv7 u 73 41 105 25 89 57 121)) (some (.p (c + 3) 0)) (.n (uv7 u 69 37 101 21 85 53 117) (uO u 13) (uv7 u 77 45 109 29 93 61 125)))) (uO u 0) (.n (.n (.n (uv7 u 64 32 96 16 80 48 112) (uO u 8) (uv7 u 72 40 104 24 88 56 120)) (some (.p (c + 2) 0)) (.n (uv7 u 68 36 100 20 84 52 116) (uO u 12) (uv7 u 76 44 108 28 92 60 124))) (some (.p (c + 1) 0)) (.n (.n (uv7 u 66 34 98 18 82 50 114) (uO u 10) (uv7 u 74 42 106 26 90 58 122)) (some (.p (c + 4) 0)) (.n (uv7 u 70 38 102 22 86 54 118) (uO u 14) (uv7 u 78 46 110 30 94 62 126)))))) [] M1 c1) (seqQ b56_29 (K Φ none 56 F) (scopeQ I (2 * (s.length - i) + 2) (endQ F [.cn (.r .h) 1, .t (.l (.l .h))] (fun r M' c' => WdP F s c r M' c' ∧ Gr c M c' M')))) := by
  intro i M1 c1 w text sm u hi hw ht hW hr
  have := L1 i M1 c1 w text sm u hi hw ht hW hr
  rw [wp_seq, wp_skip, seqQ_nrm, wp_seq] at this
  exact this
 refine wp_scopes I ?_ (2 * (s.length - 0) + 2) _ _ ?_
 · intro n l st hIs
   obtain ⟨i, M1, c1, w, text, sm, u, hi, rfl, hw, ht, hW, hr, hcs⟩ := (hI _ _ _).1 hIs
   clear hIs
   rcases hcs with ⟨rfl, rfl⟩ | ⟨rfl, rfl, hlt, h39⟩ | ⟨rfl, rfl, hst⟩
   · exact ⟨_, rfl, L1 i M1 c1 w text sm u hi hw ht hW hr⟩
   · refine ⟨_, rfl, ?_⟩
     refine n56_2 Φ h76 h77 ok hlt hs (by omega) (by omega) h39 hW u _ ?_ ?_
     · intro u M' c' k hst hj hW'
       rw [scopeQ_gto]
       refine ⟨2 * (s.length - (i + (k + 2))) + 2, by omega, (hI _ _ _).2 ⟨i + (k + 2), M', c', w, _, true, _, hj, rfl, by omega, ?_, hW', ?_, .inl ⟨rfl, rfl⟩⟩⟩
       · rw [List.length_append, List.length_take]; omega
       · rw [hr, rdW_text hst, List.drop_drop]
     · intro hst u M' c' g h6 hm
       rw [scopeQ_ret]
       exact BAD _ M' c' (hr.trans (rdW_bad hst)) g h6 hm
   · refine ⟨_, rfl, ?_⟩
     refine n56_0 Φ h74 ok hi hs (by omega) (by omega) hst hW u _ ?_
     intro u M' c' v p g h6 hm hA
     rw [scopeQ_ret]
     exact FIN _ M' c' v p i _ hi (hr.trans (rdW_done hst)) g h6 hm hA
 · simp only [WX, Nat.reduceAdd, Nat.reduceLeDiff, w56_2, w56_3, w56_4, w56_30, w56_31, w56_32]
   have g := ((((((Gr.refl ok).set c (rowB 9 [sV s]) (Nat.le_refl _) (Nat.lt_succ_self _) (Nat.le_succ _)).set (c + 1) (rowB 36 [V.l0]) (by omega) (show c + 1 < c + 2 by omega) (by omega)).set (c + 2) (rowB 34 [V.l0]) (by omega) (show c + 2 < c + 3 by omega) (by omega)).set (c + 3) (rowB 96 [V.l0]) (by omega) (show c + 3 < c + 4 by omega) (by omega)).set (c + 4) (rowB 4 [V.b false]) (by omega) (show c + 4 < c + 5 by omega) (by omega)).set (c + 5) (rowB 3 [V.i IntKind.i64 0]) (by omega) (show c + 5 < c + 6 by omega) (by omega)
   have hW0 : WS M c s ((((((M.set c (rowB 9 [sV s])).set (c + 1) (rowB 36 [V.l0])).set (c + 2) (rowB 34 [V.l0])).set (c + 3) (rowB 96 [V.l0])).set (c + 4) (rowB 4 [V.b false])).set (c + 5) (rowB 3 [V.i IntKind.i64 0])) (c + 6) [] [] false 0 := by
    refine ⟨.l0, .l0, 0, 0, g, Nat.le_refl _, ?_, ?_, ?_, ?_, ?_, get_same _ _ _, AccAt.nil, AccAt.nil⟩
    · rw [get_ne _ _ (by omega), get_ne _ _ (by omega), get_ne _ _ (by omega), get_ne _ _ (by omega), get_ne _ _ (by omega)]; exact get_same _ _ _
    · rw [get_ne _ _ (by omega), get_ne _ _ (by omega), get_ne _ _ (by omega), get_ne _ _ (by omega)]; exact get_same _ _ _
    · rw [get_ne _ _ (by omega), get_ne _ _ (by omega), get_ne _ _ (by omega)]; exact get_same _ _ _
    · rw [get_ne _ _ (by omega), get_ne _ _ (by omega)]; exact get_same _ _ _
    · rw [get_ne _ _ (by omega)]; exact get_same _ _ _
   exact L2 0 _ (c + 6) [] [] false [_, none, none, _, none, none, none, none, _, none, _, _, _, _, _, _, _, _, _, _, _, _, _, _, _, _, _, _, _, _, _, _, _, _, _, _, _, _, _, _, _, _, _, _, _, _, _, _, _, _, _, _, _, _, _, _, _, _, _, _, _, _, _, _, _, _, _, _, _, _, _, _, _, _, _, _, _, _, _, _, _, _, _, _, _, _, _, _, _, _, _, _, _, _, _, _, _, _, _, _, _, _, _, _, _, _, _, _, _, _, _, _, _, _, _, _, _, _, _, _, _, _, _, _, _, _, _] (Nat.zero_le _) (Nat.zero_le _) (Nat.zero_le _) hW0 (by rw [List.drop_zero])
abbrev Tk := Nat × List UInt8 × List Pc
def tkF : Nat → List UInt8 → Nat → List Tk
 | 0, _, _ => []
 | _ + 1, [], _ => []
 | f + 1, x :: t, i =>
   if x = 32 then tkF f t (i + 1)
   else if sgnR (x :: t) ≠ [] then (i, sgnR (x :: t), []) :: tkF f ((x :: t).drop (sgnR (x :: t)).length) (i + (sgnR (x :: t)).length)
   else match rdW (x :: t) [] [] false 0 with
    | none => []
    | some (ps, n) => if n = 0 then [] else (i, [], ps) :: tkF f ((x :: t).drop n) (i + n)
theorem len_pos {l : List UInt8} (h : l ≠ []) : 0 < l.length := by cases l with | nil => exact absurd rfl h | cons a l => simp
theorem tkF_fuel : ∀ (f g : Nat) (r : List UInt8) (i : Nat), r.length < f → r.length < g → tkF f r i = tkF g r i
 | 0, _, _, _, h, _ => by omega
 | _, 0, _, _, _, h => by omega
 | f + 1, g + 1, [], _, _, _ => rfl
 | f + 1, g + 1, x :: t, i, h1, h2 => by
   rw [List.length_cons] at h1 h2
   unfold tkF
   split
   · exact tkF_fuel f g t _ (by omega) (by omega)
   · split
     · rename_i hs
       have := len_pos hs
       rw [tkF_fuel f g _ _ (by rw [List.length_drop, List.length_cons]; omega) (by rw [List.length_drop, List.length_cons]; omega)]
     · split
       · rfl
       · split
         · rfl
         · rename_i hn
           rw [tkF_fuel f g _ _ (by rw [List.length_drop, List.length_cons]; omega) (by rw [List.length_drop, List.length_cons]; omega)]
def tk (r : List UInt8) (i : Nat) : List Tk := tkF (r.length + 1) r i
theorem tk_sp {t : List UInt8} (i : Nat) : tk (32 :: t) i = tk t (i + 1) := by
 unfold tk; rw [tkF, if_pos rfl]
 exact tkF_fuel _ _ _ _ (by rw [List.length_cons]; omega) (by omega)
theorem tk_sgn {x : UInt8} {t : List UInt8} (i : Nat) (hx : x ≠ 32) (hs : sgnR (x :: t) ≠ []) : tk (x :: t) i = (i, sgnR (x :: t), []) :: tk ((x :: t).drop (sgnR (x :: t)).length) (i + (sgnR (x :: t)).length) := by
 have := len_pos hs
 unfold tk; rw [tkF, if_neg hx, if_pos hs, tkF_fuel _ _ _ _ ?_ (Nat.lt_succ_self _)]
 rw [List.length_drop, List.length_cons]; omega
theorem tk_wd {x : UInt8} {t : List UInt8} {ps : List Pc} {n : Nat} (i : Nat) (hx : x ≠ 32) (hs : sgnR (x :: t) = []) (hr : rdW (x :: t) [] [] false 0 = some (ps, n)) (hn : n ≠ 0) : tk (x :: t) i = (i, [], ps) :: tk ((x :: t).drop n) (i + n) := by
 unfold tk; rw [tkF, if_neg hx, if_neg (fun h => h hs), hr]
 dsimp only
 rw [if_neg hn, tkF_fuel _ _ _ _ ?_ (Nat.lt_succ_self _)]
 rw [List.length_drop, List.length_cons]; omega
theorem tk_bad {x : UInt8} {t : List UInt8} (i : Nat) (hx : x ≠ 32) (hs : sgnR (x :: t) = []) (hr : ∀ ps n, rdW (x :: t) [] [] false 0 = some (ps, n) → n = 0) : tk (x :: t) i = [] := by
 unfold tk; rw [tkF, if_neg hx, if_neg (fun h => h hs)]
 split
 · rfl
 · rename_i ps n h
   rw [if_pos (hr ps n h)]
theorem sgnR_len (l : List UInt8) : (sgnR l).length ≤ l.length := by
 match l with
 | [] => exact Nat.le_refl _
 | [a] => rw [sgnR_e1]; split <;> simp
 | a :: b :: r => rw [sgnR_e2]; split
                  · simp
                  · split <;> simp
theorem tkF_len : ∀ (f : Nat) (r : List UInt8) (i : Nat), (tkF f r i).length ≤ r.length
 | 0, _, _ => Nat.zero_le _
 | _ + 1, [], _ => Nat.le_refl _
 | f + 1, x :: t, i => by
   unfold tkF
   split
   · have := tkF_len f t (i + 1); rw [List.length_cons]; omega
   · split
     · rename_i hs
       have := len_pos hs
       have := tkF_len f ((x :: t).drop (sgnR (x :: t)).length) (i + (sgnR (x :: t)).length)
       rw [List.length_drop] at this
       have := sgnR_len (x :: t)
       simp only [List.length_cons] at *; omega
     · split
       · exact Nat.zero_le _
       · split
         · exact Nat.zero_le _
         · rename_i ps n h hn
           have := tkF_len f ((x :: t).drop n) (i + n)
           rw [List.length_drop] at this
           simp only [List.length_cons] at *; omega
theorem tk_len (r : List UInt8) (i : Nat) : (tk r i).length ≤ r.length := tkF_len _ _ _
def tkc (t : Tk × V) : List V := [.i .i64 (t.1.1 : Int), sV t.1.2.1, t.2]
def tkE (ts : List (Tk × V)) : List (List V) := ts.map tkc
theorem tkE_app (ts : List (Tk × V)) (t : Tk × V) : tkE (ts ++ [t]) = tkE ts ++ [tkc t] := by unfold tkE; rw [List.map_append]; rfl
theorem tkE_len (ts : List (Tk × V)) : (tkE ts).length = ts.length := List.length_map ..
theorem tk_push {F : RO} {M1 : Mem} {c0 c1 b1 : Nat} {v : V} {ts : List (Tk × V)} (t : Tk × V) (h1 : isOne t.2 = true) (hA : AccAt M1 c0 c1 b1 61 3 v (tkE ts)) (ok1 : Okm F M1 c1) (h0 : c0 ≤ c1) (hw : ts.length ≤ 1000000) :
  RTo (appV F (M1.set c1 (rowD [V.i .i64 0, V.s 0 0, V.l0] 61 (tkc t))) (c1 + 1) 61 3 48 v (.l c1 0 1 1)) fun v' M' c' => ∃ b', AccAt M' c0 c' b' 61 3 v' (tkE (ts ++ [t])) ∧ Gr c0 M1 c' M' ∧ c1 + 1 ≤ c' ∧ (∀ x, x < c1 → x ≠ b1 → M'.get x = M1.get x) ∧ (b' = b1 ∨ c1 < b') := by
 have grY : Gr c0 M1 (c1 + 1) (M1.set c1 (rowD [V.i .i64 0, V.s 0 0, V.l0] 61 (tkc t))) := ⟨by omega, fun b hb => get_ne _ _ (by omega), fun b hb => by rw [get_ne _ _ (by omega)]; exact ok1.hiM b (by omega)⟩
 have hy : SlAt F (M1.set c1 (rowD [V.i .i64 0, V.s 0 0, V.l0] 61 (tkc t))) (c1 + 1) 3 (.l c1 0 1 1) (tkE [t]) := slD (d := [V.i .i64 0, V.s 0 0, V.l0]) (ty := 61) (by rw [get_same]; rfl) (by omega) (fun e he => by obtain ⟨x, _, rfl⟩ := List.mem_map.1 he; rfl) rfl
 have ha : allOne (tkE [t]).flatten = true := by
  show allOne (tkc t ++ []) = true
  rw [List.append_nil]
  unfold tkc
  rw [allOne_cons, allOne_cons, allOne_cons, allOne_nil, h1]; rfl
 refine (appV_to (bytes := 48) (hA.up (show c1 ≤ c1 + 1 by omega) (fun hx => get_ne _ _ (by omega))) (c0 := c0) (M0 := M1) grY (by decide) hy ha (room_of (by rw [tkE_len, tkE_len]; simp; omega) (by rw [tkE_len, tkE_len]; simp; omega))).mono ?_
 rintro v' M' c' ⟨b', h1, h2, h3, h4, h5⟩
 exact ⟨b', by rw [tkE_app]; exact h1, h2, h3, fun x hx hb => (h4 x (by omega) hb).trans (get_ne _ _ (by omega)), h5.imp id (by omega)⟩
def b21_1 : CC := (.reg [(qq a2 (.mv (.c .l0))), (qq a3 (.mv xF))])
def b21_2 : CC := (.reg [(qq a5 (.mv (x6 0)))])
def b21_3 : CC := (.reg [(qq a9 (.mv z5)), (qq a10 (.mv z0)), (qq a11 (.ln .str z10)), (qq a12 (.bi .lss z9 z11))])
def b21_4 : CC := (.reg [(qq a13 (.mv z0)), (qq a14 (.mv z5)), (qq a15 (.ixS z13 z14)), (qq a16 (.bi .eql z15 (.c (.i .u8 32))))])
def b21_5 : CC := (.reg [(qq a17 (.mv z5)), (qq a18 (.bi .add z17 (x6 1))), (qq a5 (.mv z18))])
def b21_6 : CC := (.cond z16 (.seq b21_5 (.exit 1)) .skip)
def b21_7 : CC := (.reg [(qq a19 (.mv z0)), (qq a20 (.mv z5)), (qq a21 (.slS z19 (some z20) none)), (ee a22 (.call 44 [z21])), (qq a6 (.mv z22))])
def b21_8 : CC := (.reg [(qq a23 (.mv z6)), (qq a24 (.bi .neq z23 (.c (.s 0 0))))])
def b21_9 : CC := (.reg [(qq a25 (.mv z4)), (qq a26 (.mv z5)), (qq a27 (.mv z6)), (qq a28 (.bld [(.s 0 0), .l0] [(0, 1, z27)])), (qq a29 (.bld [(.i .i64 0), (.s 0 0), .l0] [(0, 1, z26), (1, 2, z28)])), (aa a30 (.bsl 61 1 3 [(.i .i64 0), (.s 0 0), .l0] [(0, z29)])), (ee a31 (.app 61 3 48 z25 z30)), (qq a4 (.mv z31))])
def b21_10 : CC := (.reg [(qq a32 (.mv z5)), (qq a33 (.mv z6)), (qq a34 (.ln .str z33)), (qq a35 (.bi .add z32 z34)), (qq a5 (.mv z35))])
def b21_11 : CC := (.cond z24 (.seq b21_9 (.seq b21_10 (.exit 1))) .skip)
def b21_12 : CC := (.reg [(qq a37 (.mv z0)), (qq a38 (.mv z5)), (qq a39 (.slS z37 (some z38) none)), (ee a40 (.call 45 [z39])), (qq a36 (.mv z40)), (qq a41 (.ex 0 z36)), (qq a42 (.ex 1 z36)), (aa a7 (.al 36 [.l0])), (ez (.st 1 z7 z41)), (qq a8 (.mv z42))])
def b21_13 : CC := (.reg [(qq a43 (.mv z8)), (qq a44 (.bi .eql z43 (x6 0)))])
def b21_14 : CC := (.reg [(qq a45 (.mv z4)), (qq a2 (.mv z45)), (qq a3 (.mv xF))])
def b21_15 : CC := (.cond z44 (.seq b21_14 .ret) .skip)
def b21_16 : CC := (.reg [(qq a46 (.mv z4)), (qq a47 (.mv z5)), (qq a48 (.ldn 1 z7)), (qq a49 (.bld [(.s 0 0), .l0] [(1, 1, z48)])), (qq a50 (.bld [(.i .i64 0), (.s 0 0), .l0] [(0, 1, z47), (1, 2, z49)])), (aa a51 (.bsl 61 1 3 [(.i .i64 0), (.s 0 0), .l0] [(0, z50)])), (ee a52 (.app 61 3 48 z46 z51)), (qq a4 (.mv z52))])
def b21_17 : CC := (.reg [(qq a53 (.mv z5)), (qq a54 (.mv z8)), (qq a55 (.bi .add z53 z54)), (qq a5 (.mv z55))])
def b21_18 : CC := (.seq b21_12 (.seq (.seq b21_13 b21_15) (.seq b21_16 b21_17)))
def b21_19 : CC := (.seq (.seq b21_4 b21_6) (.seq (.seq b21_7 (.seq b21_8 b21_11)) b21_18))
def b21_20 : CC := (.seq (.seq b21_3 (.cond z12 .skip (.exit 0))) (.block 1 b21_19))
def b21_21 : CC := (.reg [(qq a56 (.mv z4)), (qq a2 (.mv z56)), (qq a3 (.mv xT))])
def b21_22 : CC := (.seq b21_2 (.seq (.block 0 (.loop b21_20)) (.seq b21_21 .ret)))
def b21_23 : CC := (.seq (.reg [(qq a4 (.mv (.c .l0)))]) b21_22)
def c21 : CF := .mk 6 [.t a2, .t a3] (.seq b21_1 b21_23)
theorem e21 (v0 : V) : argTr 6 [v0] = (.n sk5 (some v0) sk5) := rfl
def B21 := ai @e21 (ai (wu b21_1.eq_1) (ai (wu b21_2.eq_1) (ai (wu b21_3.eq_1) (ai (wu b21_4.eq_1) (ai (wu b21_5.eq_1) (ai (wu b21_6.eq_1) (ai (wu b21_7.eq_1) (ai (wu b21_8.eq_1) (ai (wu b21_9.eq_1) (ai (wu b21_10.eq_1) (ai (wu b21_11.eq_1) (ai (wu b21_12.eq_1) (ai (wu b21_13.eq_1) (ai (wu b21_14.eq_1) (ai (wu b21_15.eq_1) (ai (wu b21_16.eq_1) (ai (wu b21_17.eq_1) (ai (wu b21_18.eq_1) (ai (wu b21_19.eq_1) (ai (wu b21_20.eq_1) (ai (wu b21_21.eq_1) (ai (wu b21_22.eq_1) (wu b21_23.eq_1)))))))))))))))))))))))
def TkP (F : RO) (s : List UInt8) (r : V) (M' : Mem) (c' : Nat) : Prop := ∃ (ts : List (Tk × V)) (v : V) (x : Bool), ts.map (·.1) = tk s 0 ∧ r = .t [v, .b x] ∧ SlAt F M' c' 3 v (tkE ts) ∧ ∀ t ∈ ts, SlAt F M' c' 2 t.2 (pcE t.1.2.2)
theorem r21 (Φ : Nat → Option CF) (h : Φ 21 = some c21) (h45 : Φ 45 = some c45) (h44 : Φ 44 = some (.orc (pureO h44))) (h68 : Φ 68 = some (.orc (pureO h75))) (h69 : Φ 69 = some (.orc (pureO h78))) {F : RO} {M : Mem} {c : Nat} (ok : Okm F M c) (s : List UInt8) (hs : s.length ≤ 400000) :
  Calls Φ F 21 [sV s] M c fun r M' c' => TkP F s r M' c' ∧ Gr c M c' M' := by
 refine calls_walk h ?_
 simp only [WX, B21]
 obtain ⟨I, hI⟩ : ∃ I : Nat → St → Prop, ∀ n s', I n s' ↔ (∃ (i : Nat) (v : V) (M1 : Mem) (c1 b1 : Nat) (ts : List (Tk × V)) (u : List (Option V)), n = s.length - i ∧ i ≤ s.length ∧ s' = .mk ((.n (.n (.n (uv7 u 31 15 47 7 39 23 55) (uO u 3) (uv7 u 35 19 51 11 43 27 59)) (uO u 1) (.n (uv7 u 33 17 49 9 41 25 57) (some (.i .i64 (i : Int))) (uv7 u 37 21 53 13 45 29 61))) (some (sV s)) (.n (.n (uv7 u 32 16 48 8 40 24 56) (some (v)) (uv7 u 36 20 52 12 44 28 60)) (uO u 2) (.n (uv7 u 34 18 50 10 42 26 58) (uO u 6) (uv7 u 38 22 54 14 46 30 62))))) [] M1 c1 ∧ Gr c M c1 M1 ∧ AccAt M1 c c1 b1 61 3 v (tkE ts) ∧ ts.length ≤ i ∧ tk s 0 = ts.map (·.1) ++ tk (s.drop i) i ∧ ∀ t ∈ ts, ∃ lo hi, hi ≤ c1 ∧ (b1 < lo ∨ hi ≤ b1) ∧ SlOwn F M1 lo hi 2 t.2 (pcE t.1.2.2)) := ⟨fun n s' => _, fun _ _ => Iff.rfl⟩
 refine wp_while I ?_ s.length _ ((hI _ _).2 ⟨0, .l0, M, c, 0, [], [none, _, _, _, none, none, _, _, _, _, _, _, _, _, _, _, _, _, _, _, _, _, _, _, _, _, _, _, _, _, _, _, _, _, _, _, _, _, _, _, _, _, _, _, _, _, _, _, _, _, _, _, _, _, _, _, _, _, _, _, _, _, _], rfl, Nat.zero_le _, rfl, Gr.refl ok, AccAt.nil, Nat.le_refl _, rfl, fun t ht => (by cases ht)⟩)
 intro n s' hIs
 obtain ⟨i, v, M1, c1, b1, ts, u, rfl, hi, rfl, gr1, hA, hP, hpre, hown⟩ := (hI _ _).1 hIs
 clear hIs
 have ok1 := gr1.ok ok
 have hF : ∀ w, flatten (sV w) = [sV w] := fun _ => rfl
 have hO : ∀ w, isOne (sV w) = true := fun _ => rfl
 have FIN : ∀ (M2 : Mem) (c2 : Nat) (x : Bool), tk (s.drop i) i = [] → Gr c1 M1 c2 M2 → TkP F s (.t [v, .b x]) M2 c2 ∧ Gr c M c2 M2 := by
  intro M2 c2 x ht g
  refine ⟨⟨ts, v, x, by rw [hpre, ht, List.append_nil], rfl, (hA.gr g).sl, fun t h => ?_⟩, gr1.trans g⟩
  obtain ⟨lo, hi, h1, h2, h3⟩ := hown t h
  exact (h3.up (M' := M2) (c' := c2) (lo' := lo) (by have := g.le; omega) (Nat.le_refl _) (fun b _ hb => g.old b (by omega))).sl
 by_cases hlt : i < s.length
 · have d1 : decide ((i : Int) < (s.length : Int)) = true := decide_eq_true (by omega)
   have hix : ixSV (sV s) (.i .i64 (i : Int)) = some (.i .u8 ((s[i]).toNat : Int)) := ixSs s .i64 i hlt
   have hdr : s.drop i = s[i] :: s.drop (i + 1) := List.drop_eq_getElem_cons hlt
   have hsl : slSV (sV s) (some (.i .i64 (i : Int))) none = some (sV (s[i] :: s.drop (i + 1))) := by rw [← hdr]; exact sl_ln s .i64 i hi
   have hsg := h44_eq s[i] (s.drop (i + 1)) (by rw [List.length_drop]; omega)
   have hxn : ∀ k : UInt8, decide (((s[i]).toNat : Int) = (k.toNat : Int)) = decide (s[i] = k) := fun k => by congr 1; exact propext ⟨fun e => UInt8.toNat_inj.1 (by omega), fun e => by rw [e]⟩
   have x32 := hxn 32
   simp only [UInt8.reduceToNat, Int.cast_ofNat_Int] at x32
   have qsg := bi_sne (sgnR (s[i] :: s.drop (i + 1))) []
   have e0 : V.s 0 0 = sV [] := rfl
   rw [← e0] at qsg
   clear hxn
   by_cases h32 : s[i] = 32
   · rw [decide_eq_true h32] at x32
     have q1 : biV .add (.i .i64 (i : Int)) (.i .i64 1) = some (.i .i64 ((i + 1 : Nat) : Int)) := by rw [i64_add _ _ (by omega) (by omega)]; simp
     simp only [WX, reduceCtorEq, B21, d1, hix, x32, q1]
     exact ⟨s.length - (i + 1), by omega, (hI _ _).2 ⟨i + 1, v, M1, c1, b1, ts, [none, _, _, _, none, none, _, _, _, _, _, _, _, _, _, _, _, _, _, _, _, _, _, _, _, _, _, _, _, _, _, _, _, _, _, _, _, _, _, _, _, _, _, _, _, _, _, _, _, _, _, _, _, _, _, _, _, _, _, _, _, _, _], rfl, hlt, rfl, gr1, hA, by omega, by rw [hpre, hdr, h32, tk_sp], hown⟩⟩
   · rw [decide_eq_false h32] at x32
     by_cases hsn : sgnR (s[i] :: s.drop (i + 1)) = []
     · rw [decide_eq_true hsn] at qsg
       simp only [WX, B21, d1, hix, x32, hsl, h44, hsg, qsg]
       refine putE_to ((r45 Φ h45 h44 h68 h69 ok1 (s[i] :: s.drop (i + 1)) (by rw [← hdr, List.length_drop]; omega)).mono ?_)
       rintro r M2 c2 ⟨hwd, g2⟩
       have hG : ∀ v, flatten (V.g [v]) = [v] := fun _ => rfl
       rcases hwd with ⟨ps, n, v2, hrd, hn, rfl, b2, hA2⟩ | ⟨hrd, rfl⟩
       · obtain ⟨w1, w2, w3⟩ := acc_one hA2
         by_cases hn0 : n = 0
         · have dn : decide ((n : Int) = 0) = true := decide_eq_true (by omega)
           have gX := g2.set c2 (rowB 36 [v2]) g2.le (Nat.lt_succ_self _) (Nat.le_succ _)
           simp only [WX, Nat.reduceLeDiff, B21, hG, w1, dn]
           exact FIN _ _ _ (by rw [hdr]; exact tk_bad i h32 hsn (fun ps' n' e => by rw [hrd] at e; injection e with e; injection e with e1 e2; omega)) gX
         · have dn : decide ((n : Int) = 0) = false := decide_eq_false (by omega)
           have gX := g2.set c2 (rowB 36 [v2]) g2.le (Nat.lt_succ_self _) (Nat.le_succ _)
           have hA3 := acc_low1 (x := c2) (y := rowB 36 [v2]) hA2
           have ok3 := gX.ok ok1
           obtain ⟨b1, hA', hown', hb1⟩ : ∃ b, AccAt (M2.set c2 (rowB 36 [v2])) c (c2 + 1) b 61 3 v (tkE ts) ∧ (∀ t ∈ ts, ∃ lo hi, hi ≤ c1 ∧ (b < lo ∨ hi ≤ b) ∧ SlOwn F M1 lo hi 2 t.2 (pcE t.1.2.2)) ∧ (b < c1 ∨ c2 ≤ b) := by
            rcases hA with ⟨h0, ⟨e1, e2⟩ | ⟨h1, h2, h3, h4⟩⟩
            · refine ⟨c2, ⟨h0, .inl ⟨e1, e2⟩⟩, fun t ht => ?_, .inr (Nat.le_refl _)⟩
              rw [show ts = [] from List.map_eq_nil_iff.1 e1] at ht; cases ht
            · exact ⟨b1, AccAt.gr ⟨h0, .inr ⟨h1, h2, h3, h4⟩⟩ gX, hown, .inl h2⟩
           obtain ⟨j, hj⟩ : ∃ j, j = i + n := ⟨_, rfl⟩
           have hjl : j ≤ s.length := by rw [← hdr, List.length_drop] at hn; omega
           have q2 : biV .add (.i .i64 (i : Int)) (.i .i64 (n : Int)) = some (.i .i64 (j : Int)) := by rw [i64_add _ _ (by omega) (by omega), hj]; simp
           have hle2 := g2.le
           simp only [WX, Nat.reduceAdd, Nat.reduceLeDiff, B21, hG, w1, dn]
           refine putE_to ((tk_push ((i, [], ps), v2) w1 hA' ok3 (by have := gr1.le; omega) (by omega)).mono ?_)
           rintro v' M' c' ⟨b', hA4, g4, hle, hold, hb⟩
           simp only [WX, B21, q2]
           refine ⟨s.length - j, by omega, (hI _ _).2 ⟨j, v', M', c', b', ts ++ [((i, [], ps), v2)], [none, _, _, _, none, none, _, _, _, _, _, _, _, _, _, _, _, _, _, _, _, _, _, _, _, _, _, _, _, _, _, _, _, _, _, _, _, _, _, _, _, _, _, _, _, _, _, _, _, _, _, _, _, _, _, _, _, _, _, _, _, _, _], rfl, hjl, rfl, ⟨by have := gr1.le; omega, fun x hx => (g4.old x (by omega)).trans ((gX.old x (by have := gr1.le; omega)).trans (gr1.old x hx)), g4.new⟩, hA4, by simp; omega, ?_, fun t ht => ?_⟩⟩
           · rw [hpre, hdr, tk_wd i h32 hsn hrd hn0, List.map_append, List.append_assoc, ← hdr, List.drop_drop, ← hj]; rfl
           · rcases List.mem_append.1 ht with ht | ht
             · obtain ⟨lo, hi, h1, h2, h3⟩ := hown' t ht
               exact ⟨lo, hi, by omega, by omega, h3.up (Nat.le_refl _) (Nat.le_refl _) (fun b hb1 hb2 => (hold b (by omega) (by omega)).trans (gX.old b (by omega)))⟩
             · obtain rfl := List.mem_singleton.1 ht
               refine ⟨c1, c2, by omega, by omega, (hA2.own (F := F)).up (Nat.le_refl _) (Nat.le_refl _) (fun b hb1 hb2 => (hold b (by omega) (by omega)).trans (get_ne _ _ (by omega)))⟩
       · have dn : decide ((0 : Int) = 0) = true := rfl
         have gX := g2.set c2 (rowB 36 [.l0]) g2.le (Nat.lt_succ_self _) (Nat.le_succ _)
         simp only [WX, Nat.reduceLeDiff, B21, hG]
         exact FIN _ _ _ (by rw [hdr]; exact tk_bad i h32 hsn (fun ps' n' e => by rw [hrd] at e; cases e)) gX
     · rw [decide_eq_false hsn] at qsg
       obtain ⟨j, hj⟩ : ∃ j, j = i + (sgnR (s[i] :: s.drop (i + 1))).length := ⟨_, rfl⟩
       have hgl := sgnR_len (s[i] :: s.drop (i + 1))
       have hgp := len_pos hsn
       have hjl : j ≤ s.length := by rw [← hdr, List.length_drop, hdr] at hgl; omega
       have q2 : biV .add (.i .i64 (i : Int)) (.i .i64 ((sgnR (s[i] :: s.drop (i + 1))).length : Int)) = some (.i .i64 (j : Int)) := by rw [i64_add _ _ (by omega) (by omega), hj]; simp
       simp only [WX, Nat.reduceAdd, Nat.reduceLeDiff, B21, d1, hix, x32, hsl, h44, hsg, qsg, hF, hO]
       refine putE_to ((tk_push ((i, sgnR (s[i] :: s.drop (i + 1)), []), V.l0) rfl hA ok1 gr1.le (by omega)).mono ?_)
       rintro v' M' c' ⟨b', hA4, g4, hle, hold, hb⟩
       simp only [WX, reduceCtorEq, B21, q2]
       refine ⟨s.length - j, by omega, (hI _ _).2 ⟨j, v', M', c', b', ts ++ [((i, sgnR (s[i] :: s.drop (i + 1)), []), V.l0)], [none, _, _, _, none, none, _, _, _, _, _, _, _, _, _, _, _, _, _, _, _, _, _, _, _, _, _, _, _, _, _, _, _, _, _, _, _, _, _, _, _, _, _, _, _, _, _, _, _, _, _, _, _, _, _, _, _, _, _, _, _, _, _], rfl, hjl, rfl, ⟨by have := gr1.le; omega, fun x hx => (g4.old x hx).trans (gr1.old x hx), g4.new⟩, hA4, by simp; omega, ?_, fun t ht => ?_⟩⟩
       · rw [hpre, hdr, tk_sgn i h32 hsn, List.map_append, List.append_assoc, hj, ← hdr, List.drop_drop]; rfl
       · rcases List.mem_append.1 ht with ht | ht
         · obtain ⟨lo, hi, h1, h2, h3⟩ := hown t ht
           exact ⟨lo, hi, by omega, by omega, h3.up (Nat.le_refl _) (Nat.le_refl _) (fun b hb1 hb2 => hold b (by omega) (by omega))⟩
         · obtain rfl := List.mem_singleton.1 ht
           exact ⟨0, 0, Nat.zero_le _, .inr (Nat.zero_le _), (AccAt.own (c0 := 0) (b := 0) (ty := 64) AccAt.nil)⟩
 · obtain rfl : i = s.length := by omega
   have d1 : decide ((s.length : Int) < (s.length : Int)) = false := decide_eq_false (by omega)
   simp only [WX, B21, d1]
   exact FIN _ _ _ (by rw [List.drop_length]; rfl) (Gr.refl ok1)
def b28_1 : CC := (.reg [(qq a4 (.mv xF))])
def b28_2 : CC := (.reg [(qq a5 (.mv (x6 0)))])
def b28_3 : CC := (.reg [(qq a8 (.mv z5)), (qq a9 (.mv z0)), (qq a10 (.ln .str z9)), (qq a11 (.bi .lss z8 z10))])
def b28_4 : CC := (.reg [(qq a12 (.mv z0)), (qq a13 (.mv z5)), (qq a14 (.ixS z12 z13)), (qq a15 (.bi .eql z14 (.c (.i .u8 32))))])
def b28_5 : CC := (.reg [(qq a16 (.mv z5)), (qq a17 (.bi .add z16 (x6 1))), (qq a5 (.mv z17))])
def b28_6 : CC := (.cond z15 (.seq b28_5 (.exit 1)) .skip)
def b28_7 : CC := (.reg [(qq a18 (.mv z0)), (qq a19 (.mv z5)), (qq a20 (.slS z18 (some z19) none)), (ee a21 (.call 55 [z20])), (qq a22 (.bld [(.s 0 0), .l0] [(0, 1, z21)])), (aa a6 (.al 59 [(.s 0 0), .l0])), (ez (.st 2 z6 z22)), (qq a7 (.mv (x6 0)))])
def b28_8 : CC := (.reg [(qq a23 (.fa 0 z6)), (qq a24 (.ld1 z23)), (qq a25 (.ln .str z24)), (qq a7 (.mv z25))])
def b28_9 : CC := (.reg [(qq a26 (.mv z7)), (qq a27 (.bi .eql z26 (x6 0)))])
def b28_10 : CC := (.reg [(qq a29 (.mv z0)), (qq a30 (.mv z5)), (qq a31 (.slS z29 (some z30) none)), (ee a32 (.call 56 [z31])), (qq a28 (.mv z32)), (qq a33 (.ex 0 z28)), (qq a34 (.ex 1 z28)), (qq a35 (.fa 1 z6)), (ez (.st 1 z35 z33)), (qq a7 (.mv z34))])
def b28_11 : CC := (.seq b28_9 (.cond z27 b28_10 .skip))
def b28_12 : CC := (.reg [(qq a36 (.mv z7)), (qq a37 (.bi .eql z36 (x6 0))), (qq a38 (.mv z37)), ⟨(some a39), .q (.mv z1), (some (a38, false))⟩, ⟨(some a40), .q (.mv z5), (some (a38, false))⟩, ⟨(some a41), .q (.ldn 2 z6), (some (a38, false))⟩, ⟨(some a42), .e (.cv z39 [z40, z41]), (some (a38, false))⟩, ⟨(some a43), .q (.un .not z42), (some (a38, false))⟩, (qq a44 (.pk z38 xT z43))])
def b28_13 : CC := (.reg [(qq a4 (.mv xF))])
def b28_14 : CC := (.cond z44 (.seq b28_13 .ret) .skip)
def b28_15 : CC := (.reg [(qq a45 (.mv z5)), (qq a46 (.mv z7)), (qq a47 (.bi .add z45 z46)), (qq a5 (.mv z47))])
def b28_16 : CC := (.seq (.seq b28_8 b28_11) (.seq (.seq b28_12 b28_14) b28_15))
def b28_17 : CC := (.seq (.seq b28_3 (.cond z11 .skip (.exit 0))) (.block 1 (.seq (.seq b28_4 b28_6) (.seq b28_7 b28_16))))
def b28_18 : CC := (.reg [(qq a4 (.mv xT))])
def b28_19 : CC := (.seq b28_2 (.seq (.block 0 (.loop b28_17)) (.seq b28_18 .ret)))
def c28 : CF := .mk 6 [.t a4] (.seq b28_1 b28_19)
theorem e28 (v0 v1 : V) : argTr 6 [v0, v1] = (.n (.n sk4 (some v1) sk4) (some v0) sk5) := rfl
def B28 := ai @e28 (ai (wu b28_1.eq_1) (ai (wu b28_2.eq_1) (ai (wu b28_3.eq_1) (ai (wu b28_4.eq_1) (ai (wu b28_5.eq_1) (ai (wu b28_6.eq_1) (ai (wu b28_7.eq_1) (ai (wu b28_8.eq_1) (ai (wu b28_9.eq_1) (ai (wu b28_10.eq_1) (ai (wu b28_11.eq_1) (ai (wu b28_12.eq_1) (ai (wu b28_13.eq_1) (ai (wu b28_14.eq_1) (ai (wu b28_15.eq_1) (ai (wu b28_16.eq_1) (ai (wu b28_17.eq_1) (ai (wu b28_18.eq_1) (wu b28_19.eq_1)))))))))))))))))))
def b43_1 : CC := (.reg [(qq a3 (.ld1 z1)), (qq a4 (.mv z0)), (ee a5 (.call 28 [z3, z4]))])
def c43 : CF := .mk 3 [] b43_1
theorem e43 (v0 v1 : V) : argTr 3 [v0, v1] = (.n (.n sk1 (some v1) sk1) (some v0) sk2) := rfl
def B43 := ai @e43 (wu b43_1.eq_1)
def b20_1 : CC := (.reg [(aa a1 (.bx 9 1 z0)), (qq a2 (.mv (.c .f0)))])
def b20_2 : CC := (.reg [(qq a3 (.mkf 43 [] [z1])), (qq a2 (.mv z3))])
def c20 : CF := .mk 3 [.t a2] (.seq b20_1 (.seq b20_2 .ret))
theorem e20 (v0 : V) : argTr 3 [v0] = (.n sk2 (some v0) sk2) := rfl
def B20 := ai @e20 (ai (wu b20_1.eq_1) (wu b20_2.eq_1))
theorem r20 (Φ : Nat → Option CF) (h : Φ 20 = some c20) {F : RO} {M : Mem} {c : Nat} (ok : Okm F M c) (l : List UInt8) :
  Calls Φ F 20 [sV l] M c fun r M' c' => ∃ pb, r = .f 43 [] [.p pb 0] ∧ c ≤ pb ∧ pb < c' ∧ M'.get pb = some (rowB 9 [sV l]) ∧ Gr c M c' M' := by
 refine calls_walk h ?_
 have hg := fun x => (Gr.refl ok).set c x (Nat.le_refl _) (Nat.lt_succ_self _) (Nat.le_succ _)
 have fS : flatten (sV l) = [sV l] := rfl
 have aS : allOne [sV l] = true := rfl
 simp only [WX, B20, fS, aS]
 exact ⟨_, rfl, Nat.le_refl _, Nat.lt_succ_self _, get_same _ _ _, hg _⟩
theorem r28 (Φ : Nat → Option CF) (h : Φ 28 = some c28) (h56 : Φ 56 = some c56) (h55 : Φ 55 = some (.orc (pureO h55))) (h73 : Φ 73 = some (.orc (pureO h73))) (h75 : Φ 75 = some (.orc (pureO h75))) (h76 : Φ 76 = some (.orc (pureO h88))) (h77 : Φ 77 = some (.orc (pureO h77))) (h74 : Φ 74 = some c74) {F : RO} {M : Mem} {c y : Nat} {s : List UInt8} (hs : s.length ≤ 400000) {I : Nat → Mem → Nat → Prop} {J : Mem → Nat → Prop} (h0 : I 0 M c)
  (hOk : ∀ k M1 c1, I k M1 c1 → Okm F M1 c1 ∧ c ≤ c1) (hGr : ∀ k M1 c1 M2 c2, I k M1 c1 → Gr c1 M1 c2 M2 → I k M2 c2)
  (hY : ∀ k M1 c1 pv b, (hk : k < (tk s 0).length) → I k M1 c1 → isOne pv = true → AccAt M1 c c1 b 64 2 pv (pcE (tk s 0)[k].2.2) → RTo (callV (K Φ none 28 F) (.y y) [.i .i64 ((tk s 0)[k].1 : Int), .g [sV (tk s 0)[k].2.1, pv]] M1 c1) fun r M' c' => (r = .b true ∧ I (k + 1) M' c') ∨ (r = .b false ∧ J M' c')) :
  Calls Φ F 28 [sV s, .y y] M c fun _ M' c' => I (tk s 0).length M' c' ∨ J M' c' := by
 refine calls_walk h ?_
 simp only [WX, B28]
 obtain ⟨Iv, hIv⟩ : ∃ Iv : Nat → St → Prop, ∀ n s', Iv n s' ↔ (∃ (i k : Nat) (M1 : Mem) (c1 : Nat) (u : List (Option V)), n = s.length - i ∧ i ≤ s.length ∧ k ≤ (tk s 0).length ∧ s' = .mk ((.n (.n (.n (uv7 u 31 15 47 7 39 23 55) (uO u 3) (uv7 u 35 19 51 11 43 27 59)) (some (.y y)) (.n (uv7 u 33 17 49 9 41 25 57) (some (.i .i64 (i : Int))) (uv7 u 37 21 53 13 45 29 61))) (some (sV s)) (.n (.n (uv7 u 32 16 48 8 40 24 56) (uO u 4) (uv7 u 36 20 52 12 44 28 60)) (uO u 2) (.n (uv7 u 34 18 50 10 42 26 58) (uO u 6) (uv7 u 38 22 54 14 46 30 62))))) [] M1 c1 ∧ tk (s.drop i) i = (tk s 0).drop k ∧ I k M1 c1) := ⟨fun n s' => _, fun _ _ => Iff.rfl⟩
 refine wp_while Iv ?_ s.length _ ((hIv _ _).2 ⟨0, 0, _, _, [none, none, _, _, _, none, _, _, _, _, _, _, _, _, _, _, _, _, _, _, _, _, _, _, _, _, _, _, _, _, _, _, _, _, _, _, _, _, _, _, _, _, _, _, _, _, _, _, _, _, _, _, _, _, _, _, _, _, _, _, _, _, _], rfl, Nat.zero_le _, Nat.zero_le _, rfl, rfl, h0⟩)
 intro n s' hIs
 obtain ⟨i, k, M1, c1, u, rfl, hi, hk, rfl, hpre, hik⟩ := (hIv _ _).1 hIs
 clear hIs
 obtain ⟨ok1, hc1⟩ := hOk _ _ _ hik
 have hF : ∀ w, flatten (sV w) = [sV w] := fun _ => rfl
 have hO : ∀ w, isOne (sV w) = true := fun _ => rfl
 have FIN : tk (s.drop i) i = [] → k = (tk s 0).length := by
  intro ht
  rw [ht] at hpre
  have := List.drop_eq_nil_iff.1 hpre.symm
  omega
 by_cases hlt : i < s.length
 · have d1 : decide ((i : Int) < (s.length : Int)) = true := decide_eq_true (by omega)
   have hix : ixSV (sV s) (.i .i64 (i : Int)) = some (.i .u8 ((s[i]).toNat : Int)) := ixSs s .i64 i hlt
   have hdr : s.drop i = s[i] :: s.drop (i + 1) := List.drop_eq_getElem_cons hlt
   have hsl : slSV (sV s) (some (.i .i64 (i : Int))) none = some (sV (s[i] :: s.drop (i + 1))) := by rw [← hdr]; exact sl_ln s .i64 i hi
   have hsg := h55_eq (s[i] :: s.drop (i + 1))
   rw [sgn_eq] at hsg
   have hxn : ∀ k : UInt8, decide (((s[i]).toNat : Int) = (k.toNat : Int)) = decide (s[i] = k) := fun k => by congr 1; exact propext ⟨fun e => UInt8.toNat_inj.1 (by omega), fun e => by rw [e]⟩
   have x32 := hxn 32
   simp only [UInt8.reduceToNat, Int.cast_ofNat_Int] at x32
   clear hxn
   by_cases h32 : s[i] = 32
   · rw [decide_eq_true h32] at x32
     have q1 : biV .add (.i .i64 (i : Int)) (.i .i64 1) = some (.i .i64 ((i + 1 : Nat) : Int)) := by rw [i64_add _ _ (by omega) (by omega)]; simp
     simp only [WX, reduceCtorEq, B28, d1, hix, x32, q1]
     exact ⟨s.length - (i + 1), by omega, (hIv _ _).2 ⟨i + 1, k, M1, c1, [none, none, _, _, _, none, _, _, _, _, _, _, _, _, _, _, _, _, _, _, _, _, _, _, _, _, _, _, _, _, _, _, _, _, _, _, _, _, _, _, _, _, _, _, _, _, _, _, _, _, _, _, _, _, _, _, _, _, _, _, _, _, _], rfl, hlt, hk, rfl, by rw [← hpre, hdr, h32, tk_sp], hik⟩⟩
   · rw [decide_eq_false h32] at x32
     have fS := hF
     have a2 : ∀ w v, isOne v = true → allOne [sV w, v] = true := fun w v hv => by rw [allOne_cons, allOne_cons, allOne_nil, hv]; rfl
     by_cases hsn : sgnR (s[i] :: s.drop (i + 1)) = []
     · rw [hsn] at hsg
       have d0 : decide (((([] : List UInt8).length : Nat) : Int) = 0) = true := rfl
       have e0 : sV [] = V.s 0 0 := rfl
       simp only [WX, Nat.reduceAdd, Nat.reduceLeDiff, B28, d1, hix, x32, hsl, h55, hsg, hF, hO, Int.ofNat_zero]
       have gX := (Gr.refl ok1).set c1 (rowB 59 [sV [], V.l0]) (Nat.le_refl _) (Nat.lt_succ_self _) (Nat.le_succ _)
       have okX := gX.ok ok1
       refine putE_to ((r56 Φ h56 h55 h73 h75 h76 h77 h74 okX (s[i] :: s.drop (i + 1)) (by rw [← hdr, List.length_drop]; omega)).mono ?_)
       rintro r M2 c2 ⟨hwd, g2⟩
       have hG : ∀ v, flatten (V.g [v]) = [v] := fun _ => rfl
       have m1 := (g2.old c1 (by omega)).trans (get_same M1 c1 (rowB 59 [sV [], V.l0]))
       have hle2 := g2.le
       rcases hwd with ⟨ps, n, v2, hrd, hn, rfl, b2, hA2⟩ | ⟨hrd, rfl⟩
       · obtain ⟨w1, w2, w3⟩ := acc_one hA2
         have st1 := store_row m1 1 [v2] (by simp) w3
         have gF : Gr c1 M1 c2 (M2.set c1 (rowB 59 (over [sV [], V.l0] 1 [v2]))) := (gX.trans g2).set c1 _ (Nat.le_refl _) (by omega) (Nat.le_refl _)
         have ldx := loadN_row (F := F) (get_same M2 c1 (rowB 59 [sV [], v2])) 2 rfl
         have hov : over [sV [], V.l0] 1 [v2] = [sV [], v2] := rfl
         rw [hov] at st1 gF
         by_cases hn0 : n = 0
         · have dn : decide ((n : Int) = 0) = true := decide_eq_true (by omega)
           simp only [WX, B28, hG, st1, dn]
           exact .inl (FIN (by rw [hdr]; exact tk_bad i h32 hsn (fun ps' n' e => by rw [hrd] at e; injection e with e; injection e with e1 e2; omega)) ▸ hGr _ _ _ _ _ hik gF)
         · have dn : decide ((n : Int) = 0) = false := decide_eq_false (by omega)
           obtain ⟨j, hj⟩ : ∃ j, j = i + n := ⟨_, rfl⟩
           have hjl : j ≤ s.length := by rw [← hdr, List.length_drop] at hn; omega
           have q2 : biV .add (.i .i64 (i : Int)) (.i .i64 (n : Int)) = some (.i .i64 (j : Int)) := by rw [i64_add _ _ (by omega) (by omega), hj]; simp
           have ht := tk_wd i h32 hsn hrd hn0
           rw [← hdr, hpre, List.drop_drop, ← hj] at ht
           have hklt : k < (tk s 0).length := by
            by_cases hh : k < (tk s 0).length
            · exact hh
            · rw [List.drop_eq_nil_of_le (by omega)] at ht; cases ht
           rw [List.drop_eq_getElem_cons hklt] at ht
           injection ht with g1 g2'
           have hy := hY k _ c2 v2 b2 hklt (hGr _ _ _ _ _ hik gF) w1 (by rw [g1]; exact acc_low (acc_low1 hA2 (by omega)) (by omega))
           rw [g1] at hy
           simp only [WX, B28, hG, st1, dn, ldx]
           refine putE_to (hy.mono ?_)
           rintro b M3 c3 (⟨rfl, hi3⟩ | ⟨rfl, hj3⟩)
           · simp only [WX, B28, q2]
             exact ⟨s.length - j, by omega, (hIv _ _).2 ⟨j, k + 1, M3, c3, [none, none, _, _, _, none, _, _, _, _, _, _, _, _, _, _, _, _, _, _, _, _, _, _, _, _, _, _, _, _, _, _, _, _, _, _, _, _, _, _, _, _, _, _, _, _, _, _, _, _, _, _, _, _, _, _, _, _, _, _, _, _, _], rfl, hjl, hklt, rfl, g2'.symm, hi3⟩⟩
           · simp only [WX, B28]
             exact .inr hj3
       · have st1 := store_row m1 1 [V.l0] (by simp) rfl
         have gF : Gr c1 M1 c2 (M2.set c1 (rowB 59 (over [sV [], V.l0] 1 [V.l0]))) := (gX.trans g2).set c1 _ (Nat.le_refl _) (by omega) (Nat.le_refl _)
         have dn : decide ((0 : Int) = 0) = true := rfl
         simp only [WX, Nat.reduceAdd, B28, hG, st1]
         exact .inl (FIN (by rw [hdr]; exact tk_bad i h32 hsn (fun ps' n' e => by rw [hrd] at e; cases e)) ▸ hGr _ _ _ _ _ hik gF)
     · have dg : decide (((sgnR (s[i] :: s.drop (i + 1))).length : Int) = 0) = false := decide_eq_false (by have := len_pos hsn; omega)
       simp only [WX, Nat.reduceAdd, Nat.reduceLeDiff, B28, d1, hix, x32, hsl, h55, hsg, hF, hO, dg]
       have gX := (Gr.refl ok1).set c1 (rowB 59 [sV (sgnR (s[i] :: s.drop (i + 1))), V.l0]) (Nat.le_refl _) (Nat.lt_succ_self _) (Nat.le_succ _)
       obtain ⟨j, hj⟩ : ∃ j, j = i + (sgnR (s[i] :: s.drop (i + 1))).length := ⟨_, rfl⟩
       have hgl := sgnR_len (s[i] :: s.drop (i + 1))
       have hgp := len_pos hsn
       have hjl : j ≤ s.length := by rw [← hdr, List.length_drop, hdr] at hgl; omega
       have q2 : biV .add (.i .i64 (i : Int)) (.i .i64 ((sgnR (s[i] :: s.drop (i + 1))).length : Int)) = some (.i .i64 (j : Int)) := by rw [i64_add _ _ (by omega) (by omega), hj]; simp
       have ht := tk_sgn i h32 hsn
       rw [← hj, show (s[i] :: s.drop (i + 1)).drop (sgnR (s[i] :: s.drop (i + 1))).length = s.drop j from by rw [hj, ← hdr, List.drop_drop]] at ht
       have ht2 := hpre
       rw [hdr, ht] at ht2
       have hklt : k < (tk s 0).length := by
        by_cases hh : k < (tk s 0).length
        · exact hh
        · rw [show (tk s 0).drop k = [] from List.drop_eq_nil_of_le (by omega)] at ht2; cases ht2
       rw [List.drop_eq_getElem_cons hklt] at ht2
       injection ht2 with g1 g2'
       have hy := hY k _ (c1 + 1) .l0 0 hklt (hGr _ _ _ _ _ hik gX) rfl (by rw [← g1]; exact AccAt.nil)
       rw [← g1] at hy
       refine putE_to (hy.mono ?_)
       rintro b M3 c3 (⟨rfl, hi3⟩ | ⟨rfl, hj3⟩)
       · simp only [WX, B28, q2]
         exact ⟨s.length - j, by omega, (hIv _ _).2 ⟨j, k + 1, M3, c3, [none, none, _, _, _, none, _, _, _, _, _, _, _, _, _, _, _, _, _, _, _, _, _, _, _, _, _, _, _, _, _, _, _, _, _, _, _, _, _, _, _, _, _, _, _, _, _, _, _, _, _, _, _, _, _, _, _, _, _, _, _, _, _], rfl, hjl, hklt, rfl, g2', hi3⟩⟩
       · simp only [WX, B28]
         exact .inr hj3
 · obtain rfl : i = s.length := by omega
   have d1 : decide ((s.length : Int) < (s.length : Int)) = false := decide_eq_false (by omega)
   simp only [WX, B28, d1]
   exact .inl (FIN (by rw [List.drop_length]; rfl) ▸ hik)
theorem r43 (Φ : Nat → Option CF) (h : Φ 43 = some c43) (h28 : Φ 28 = some c28) (h56 : Φ 56 = some c56) (h55 : Φ 55 = some (.orc (pureO h55))) (h73 : Φ 73 = some (.orc (pureO h73))) (h75 : Φ 75 = some (.orc (pureO h75))) (h76 : Φ 76 = some (.orc (pureO h88))) (h77 : Φ 77 = some (.orc (pureO h77))) (h74 : Φ 74 = some c74) {F : RO} {M : Mem} {c y pb : Nat} {s : List UInt8} (hs : s.length ≤ 400000) (hb : M.get pb = some (rowB 9 [sV s])) {I : Nat → Mem → Nat → Prop} {J : Mem → Nat → Prop} (h0 : I 0 M c)
  (hOk : ∀ k M1 c1, I k M1 c1 → Okm F M1 c1 ∧ c ≤ c1) (hGr : ∀ k M1 c1 M2 c2, I k M1 c1 → Gr c1 M1 c2 M2 → I k M2 c2)
  (hY : ∀ k M1 c1 pv b, (hk : k < (tk s 0).length) → I k M1 c1 → isOne pv = true → AccAt M1 c c1 b 64 2 pv (pcE (tk s 0)[k].2.2) → RTo (callV (K Φ none 28 F) (.y y) [.i .i64 ((tk s 0)[k].1 : Int), .g [sV (tk s 0)[k].2.1, pv]] M1 c1) fun r M' c' => (r = .b true ∧ I (k + 1) M' c') ∨ (r = .b false ∧ J M' c')) :
  Calls Φ F 43 [.y y, .p pb 0] M c fun _ M' c' => I (tk s 0).length M' c' ∨ J M' c' := by
 refine calls_walk h ?_
 have hld : load1 F M pb 0 = some (sV s) := load_row hb 0
 simp only [WX, B43, hld]
 refine putE_to ((r28 Φ h28 h56 h55 h73 h75 h76 h77 h74 hs h0 hOk hGr hY).mono ?_)
 rintro r M' c' hr
 simp only [WX]
 exact hr
def b22_1 : CC := (.reg [(aa a2 (.bx 36 1 z0)), (aa a3 (.bx 36 1 z1)), (qq a4 (.mv xF))])
def b22_2 : CC := (.reg [(qq a6 (.fa 0 z2)), (qq a7 (.ld1 z6)), (qq a8 (.ln .slice z7)), (qq a9 (.fa 0 z3)), (qq a10 (.ld1 z9)), (qq a11 (.ln .slice z10)), (qq a12 (.bi .neq z8 z11))])
def b22_3 : CC := (.reg [(qq a4 (.mv xF))])
def b22_4 : CC := (.seq b22_2 (.cond z12 (.seq b22_3 .ret) .skip))
def b22_5 : CC := (.reg [(qq a5 (.mv (x6 0)))])
def b22_6 : CC := (.reg [(qq a13 (.mv z5)), (qq a14 (.fa 0 z2)), (qq a15 (.ld1 z14)), (qq a16 (.ln .slice z15)), (qq a17 (.bi .lss z13 z16))])
def b22_7 : CC := (.seq b22_6 (.cond z17 .skip (.exit 0)))
def b22_8 : CC := (.dreg 11 [(0, 0, (qq a20 (.fa 0 z2))), (1, 1, (qq a21 (.ld1 z20))), (2, 0, (qq a22 (.mv z5))), (3, 7, (qq a23 (.iaS 2 z21 z22))), (4, 15, (qq a24 (.ldn 2 z23))), (5, 0, (qq a25 (.fa 0 z3))), (6, 32, (qq a26 (.ld1 z25))), (7, 0, (qq a27 (.mv z5))), (8, 224, (qq a28 (.iaS 2 z26 z27))), (9, 480, (qq a29 (.ldn 2 z28))), (10, 1023, (qq a30 (.eq true (.agg [(0, .str), (1, .bool)]) false z24 z29)))])
def b22_9 : CC := (.reg [(qq a4 (.mv xF))])
def b22_10 : CC := (.seq b22_8 (.cond z30 (.seq b22_9 .ret) .skip))
def b22_11 : CC := (.reg [(qq a18 (.mv z5)), (qq a19 (.bi .add z18 (x6 1))), (qq a5 (.mv z19))])
def b22_12 : CC := (.block 0 (.loop (.seq b22_7 (.seq (.block 1 b22_10) b22_11))))
def b22_13 : CC := (.reg [(qq a4 (.mv xT))])
def b22_14 : CC := (.seq b22_1 (.seq b22_4 (.seq (.seq b22_5 b22_12) (.seq b22_13 .ret))))
def c22 : CF := .mk 5 [.t a4] b22_14
theorem e22 (v0 v1 : V) : argTr 5 [v0, v1] = (.n (.n sk3 (some v1) sk3) (some v0) sk4) := rfl
def B22 := ai @e22 (ai (wu b22_1.eq_1) (ai (wu b22_2.eq_1) (ai (wu b22_3.eq_1) (ai (wu b22_4.eq_1) (ai (wu b22_5.eq_1) (ai (wu b22_6.eq_1) (ai (wu b22_7.eq_1) (ai (wu b22_8.eq_1) (ai (wu b22_9.eq_1) (ai (wu b22_10.eq_1) (ai (wu b22_11.eq_1) (ai (wu b22_12.eq_1) (ai (wu b22_13.eq_1) (wu b22_14.eq_1))))))))))))))
theorem sl_one {F : RO} {M : Mem} {c sz : Nat} {v : V} {es : List (List V)} (h : SlAt F M c sz v es) : isOne v = true ∧ flatten v = [v] ∧ allOne [v] = true := by
 rcases h with ⟨_, ⟨_, rfl | ⟨b, o0, o, rfl⟩⟩ | ⟨b, o, ⟨cap, _, rfl⟩ | ⟨el, kn, _, rfl⟩, _⟩⟩ <;> exact ⟨rfl, rfl, rfl⟩
theorem pc_at {F : RO} {M : Mem} {c : Nat} {v : V} {ps : List Pc} (h : SlAt F M c 2 v (pcE ps)) (i : Nat) (hi : i < ps.length) : ∃ b o, b < c ∧ (∀ k, iaSV 2 v (.i k (i : Int)) = some (.p b o)) ∧ loadN F M b o 2 = some (pcV ps[i]) := by
 obtain ⟨b, o, h1, h2, h3⟩ := h.at i (by rw [pcE_len]; exact hi)
 have e : (pcE ps)[i]'(by rw [pcE_len]; exact hi) = pcV ps[i] := by simp [pcE]
 rw [e] at h3
 exact ⟨b, o, h1, h2, h3.load (by simp [pcV])⟩
theorem r22 (Φ : Nat → Option CF) (h : Φ 22 = some c22) {F : RO} {M : Mem} {c : Nat} (ok : Okm F M c) {v1 v2 : V} {ps : List Pc} (hl : ps.length ≤ 1000000) (h1 : SlAt F M c 2 v1 (pcE ps)) (h2 : SlAt F M c 2 v2 (pcE ps)) :
  Calls Φ F 22 [.g [v1], .g [v2]] M c fun r M' c' => r = .b true ∧ Gr c M c' M' := by
 refine calls_walk h ?_
 obtain ⟨y1, y2, y3⟩ := sl_one h1
 obtain ⟨z1, z2, z3⟩ := sl_one h2
 have hG : ∀ v, flatten (V.g [v]) = [v] := fun _ => rfl
 have gX := ((Gr.refl ok).set c (rowB 36 [v1]) (Nat.le_refl _) (Nat.lt_succ_self _) (Nat.le_succ _)).set (c + 1) (rowB 36 [v2]) (by omega) (show c + 1 < c + 2 by omega) (by omega)
 have m0 : ((M.set c (rowB 36 [v1])).set (c + 1) (rowB 36 [v2])).get c = some (rowB 36 [v1]) := by rw [get_ne _ _ (by omega)]; exact get_same _ _ _
 have m1 : ((M.set c (rowB 36 [v1])).set (c + 1) (rowB 36 [v2])).get (c + 1) = some (rowB 36 [v2]) := get_same _ _ _
 have k1 := h1.grow gX
 have k2 := h2.grow gX
 have l0 : load1 F ((M.set c (rowB 36 [v1])).set (c + 1) (rowB 36 [v2])) c 0 = some v1 := load_row m0 0
 have l1 : load1 F ((M.set c (rowB 36 [v1])).set (c + 1) (rowB 36 [v2])) (c + 1) 0 = some v2 := load_row m1 0
 have n1 : lnL v1 = some (.i .i64 (ps.length : Int)) := by have := h1.len; rwa [pcE_len] at this
 have n2 : lnL v2 = some (.i .i64 (ps.length : Int)) := by have := h2.len; rwa [pcE_len] at this
 simp only [WX, Nat.reduceAdd, B22, hG, y3, z3, l0, l1, n1, n2, eq_self, ne_eq, not_true_eq_false]
 generalize (M.set c (rowB 36 [v1])).set (c + 1) (rowB 36 [v2]) = X at gX k1 k2 l0 l1 ⊢
 obtain ⟨I, hI⟩ : ∃ I : Nat → St → Prop, ∀ n s', I n s' ↔ (∃ (i c1 : Nat) (u : List (Option V)), n = ps.length - i ∧ i ≤ ps.length ∧ c + 2 ≤ c1 ∧ s' = .mk ((.n (.n (.n (uv3 u 15 7 23) (some (.p (c + 1) 0)) (uv3 u 19 11 27)) (uO u 1) (.n (uv3 u 17 9 25) (some (.i .i64 (i : Int))) (uv3 u 21 13 29))) (uO u 0) (.n (uv7 u 16 8 24 4 20 12 28) (some (.p c 0)) (uv7 u 18 10 26 6 22 14 30)))) [] X c1) := ⟨fun n s => _, fun _ _ => Iff.rfl⟩
 have okX := gX.ok ok
 refine wp_while I ?_ ps.length _ ((hI _ _).2 ⟨0, _, [_, _, none, none, _, none, _, _, _, _, _, _, _, _, _, _, _, _, _, _, _, _, _, _, _, _, _, _, _, _, _], rfl, Nat.zero_le _, Nat.le_refl _, rfl⟩)
 intro n s' hIs
 obtain ⟨i, c1, u, rfl, hi, hc1, rfl⟩ := (hI _ _).1 hIs
 clear hIs
 by_cases hlt : i < ps.length
 · have d1 : decide ((i : Int) < (ps.length : Int)) = true := decide_eq_true (by omega)
   obtain ⟨a, b, _, ia1, ld1⟩ := pc_at k1 i hlt
   obtain ⟨a', b', _, ia2, ld2⟩ := pc_at k2 i hlt
   have ia1 := ia1 .i64
   have ia2 := ia2 .i64
   have hfr := okX.free
   have q1 : biV .add (.i .i64 (i : Int)) (.i .i64 1) = some (.i .i64 ((i + 1 : Nat) : Int)) := by rw [i64_add _ _ (by omega) (by omega)]; simp
   unfold pcV at ld1 ld2
   simp only [WX, B22, n1, l0, l1, d1, ia1, ia2, ld1, ld2, q1]
   exact ⟨ps.length - (i + 1), by omega, (hI _ _).2 ⟨i + 1, _, [_, _, none, none, _, none, _, _, _, _, _, _, _, _, _, _, _, _, _, _, _, _, _, _, _, _, _, _, _, _, _], rfl, hlt, by omega, rfl⟩⟩
 · obtain rfl : i = ps.length := by omega
   have d1 : decide ((ps.length : Int) < (ps.length : Int)) = false := decide_eq_false (by omega)
   simp only [WX, B22, n1, l0, d1]
   exact gX.up hc1
def b5_1 : CC := (.reg [(aa a3 (.bx 3 1 z1)), (aa a4 (.al 4 [(.b false)]))])
def w5_1 := wu b5_1.eq_1
def b5_2 : CC := (.reg [(qq a13 (.mv z0)), (qq a14 (.ln .str z13)), (qq a15 (.bi .gtr z14 (x6 9000)))])
def w5_2 := wu b5_2.eq_1
def b5_3 : CC := (.reg [(ee a16 (.call 9 [])), (ez (.st 1 z4 z16))])
def w5_3 := wu b5_3.eq_1
def b5_4 : CC := (.seq b5_2 (.cond z15 (.seq b5_3 .ret) .skip))
def w5_4 := wu b5_4.eq_1
def b5_5 : CC := (.reg [(qq a17 (.mv z0)), (ee a18 (.call 20 [z17])), (qq a5 (.mv z18))])
def w5_5 := wu b5_5.eq_1
def b5_6 : CC := (.reg [(qq a20 (.mv z0)), (ee a21 (.call 21 [z20])), (qq a19 (.mv z21)), (qq a22 (.ex 0 z19)), (qq a23 (.ex 1 z19)), (aa a6 (.al 55 [.l0])), (ez (.st 1 z6 z22)), (qq a7 (.mv z23))])
def w5_6 := wu b5_6.eq_1
def b5_7 : CC := (.reg [(qq a24 (.mv z5)), (qq a25 (.eq false .func true z24 (.c .f0)))])
def w5_7 := wu b5_7.eq_1
def b5_8 : CC := (.reg [(ez (.st 1 z4 xF))])
def w5_8 := wu b5_8.eq_1
def b5_9 : CC := (.seq b5_7 (.cond z25 (.seq b5_8 .ret) .skip))
def w5_9 := wu b5_9.eq_1
def b5_10 : CC := (.reg [(aa a8 (.al 3 [(.i .i64 0)])), (ez (.st 1 z8 (x6 0)))])
def w5_10 := wu b5_10.eq_1
def b5_11 : CC := (.reg [(qq a26 (.ld1 z8)), (qq a27 (.bi .lss z26 (x6 2)))])
def w5_11 := wu b5_11.eq_1
def b5_12 : CC := (.seq b5_11 (.cond z27 .skip (.exit 0)))
def w5_12 := wu b5_12.eq_1
def b5_13 : CC := (.reg [(aa a9 (.al 3 [(.i .i64 0)])), (ez (.st 1 z9 (x6 0)))])
def w5_13 := wu b5_13.eq_1
def b5_14 : CC := (.reg [(qq a30 (.mv z5))])
def w5_14 := wu b5_14.eq_1
def b5_15 : CC := (.reg [(qq a10 (.mv z31))])
def w5_15 := wu b5_15.eq_1
def b5_16 : CC := (.reg [(aa a11 (.al 59 [(.s 0 0), .l0])), (ez (.st 2 z11 z32))])
def w5_16 := wu b5_16.eq_1
def b5_17 : CC := (.dreg 36 [(0, 0, (qq a33 (.ld1 z9))), (1, 0, (qq a34 (.ld1 z6))), (2, 2, (qq a35 (.ln .slice z34))), (3, 7, (qq a36 (.bi .geq z33 z35))), (4, 15, (qq a37 (.mv z36))), (5, 31, ⟨(some a38), .q (.mv z10), (some (a37, false))⟩), (6, 31, ⟨(some a39), .q (.ld1 z6), (some (a37, false))⟩), (7, 31, ⟨(some a40), .q (.ld1 z9), (some (a37, false))⟩), (8, 223, ⟨(some a41), .q (.iaS 3 z39 z40), (some (a37, false))⟩), (9, 479, ⟨(some a42), .q (.fa 0 z41), (some (a37, false))⟩), (10, 991, ⟨(some a43), .q (.ld1 z42), (some (a37, false))⟩), (11, 2047, ⟨(some a44), .q (.bi .neq z38 z43), (some (a37, false))⟩), (12, 4095, (qq a45 (.pk z37 xT z44))), (13, 8191, (qq a46 (.mv z45))), (14, 16383, ⟨(some a47), .q (.fa 0 z11), (some (a46, false))⟩), (15, 32767, ⟨(some a48), .q (.ld1 z47), (some (a46, false))⟩), (16, 16383, ⟨(some a49), .q (.ld1 z6), (some (a46, false))⟩), (17, 16383, ⟨(some a50), .q (.ld1 z9), (some (a46, false))⟩), (18, 212991, ⟨(some a51), .q (.iaS 3 z49 z50), (some (a46, false))⟩), (19, 475135, ⟨(some a52), .q (.fa 1 z51), (some (a46, false))⟩), (20, 999423, ⟨(some a53), .q (.fa 0 z52), (some (a46, false))⟩), (21, 2047999, ⟨(some a54), .q (.ld1 z53), (some (a46, false))⟩), (22, 4194303, ⟨(some a55), .q (.bi .neq z48 z54), (some (a46, false))⟩), (23, 8388607, (qq a56 (.pk z46 xT z55))), (24, 16777215, (qq a57 (.mv z56))), (25, 33554431, ⟨(some a58), .q (.fa 1 z11), (some (a57, false))⟩), (26, 67108863, ⟨(some a59), .q (.ldn 1 z58), (some (a57, false))⟩), (27, 33554431, ⟨(some a60), .q (.ld1 z6), (some (a57, false))⟩), (28, 33554431, ⟨(some a61), .q (.ld1 z9), (some (a57, false))⟩), (29, 436207615, ⟨(some a62), .q (.iaS 3 z60 z61), (some (a57, false))⟩), (30, 973078527, ⟨(some a63), .q (.fa 1 z62), (some (a57, false))⟩), (31, 2046820351, ⟨(some a64), .q (.fa 1 z63), (some (a57, false))⟩), (32, 4194303999, ⟨(some a65), .q (.ldn 1 z64), (some (a57, false))⟩), (33, 8589934591, ⟨(some a66), .e (.call 22 [z59, z65]), (some (a57, false))⟩), (34, 17179869183, ⟨(some a67), .q (.un .not z66), (some (a57, false))⟩), (35, 34359738367, (qq a68 (.pk z57 xT z67)))])
def w5_17 := wu b5_17.eq_1
def b5_18 : CC := (.reg [(ez (.st 1 z4 xF))])
def w5_18 := wu b5_18.eq_1
def b5_19 : CC := (.cond z68 (.seq b5_18 .ret) .skip)
def w5_19 := wu b5_19.eq_1
def b5_20 : CC := (.reg [(qq a12 (.mv (x6 0)))])
def w5_20 := wu b5_20.eq_1
def b5_21 : CC := (.reg [(qq a69 (.mv z12)), (qq a70 (.fa 1 z11)), (qq a71 (.fa 0 z70)), (qq a72 (.ld1 z71)), (qq a73 (.ln .slice z72)), (qq a74 (.bi .lss z69 z73))])
def w5_21 := wu b5_21.eq_1
def b5_22 : CC := (.cond z74 .skip (.exit 4))
def w5_22 := wu b5_22.eq_1
def b5_23 : CC := (.reg [(qq a77 (.fa 1 z11)), (qq a78 (.fa 0 z77)), (qq a79 (.ld1 z78)), (qq a80 (.mv z12)), (qq a81 (.bld [(.s 0 0), (.b false)] [])), (qq a82 (.iaS 2 z79 z80)), (ez (.st 2 z82 z81))])
def w5_23 := wu b5_23.eq_1
def b5_24 : CC := (.reg [(qq a75 (.mv z12)), (qq a76 (.bi .add z75 (x6 1))), (qq a12 (.mv z76))])
def w5_24 := wu b5_24.eq_1
def b5_25 : CC := (.loop (.seq (.seq b5_21 b5_22) (.seq (.block 5 b5_23) b5_24)))
def w5_25 := wu b5_25.eq_1
def b5_26 : CC := (.reg [(qq a83 (.ld1 z9)), (qq a84 (.bi .add z83 (x6 1))), (ez (.st 1 z9 z84))])
def w5_26 := wu b5_26.eq_1
def b5_27 : CC := (.reg [(qq a85 (.ld1 z8)), (qq a86 (.bi .eql z85 (x6 0))), (qq a87 (.mv z86)), ⟨(some a88), .q (.ld1 z9), (some (a87, true))⟩, ⟨(some a89), .q (.ld1 z3), (some (a87, true))⟩, ⟨(some a90), .q (.bi .eql z88 z89), (some (a87, true))⟩, (qq a91 (.pk z87 z90 xF))])
def w5_27 := wu b5_27.eq_1
def b5_28 : CC := (.cond z91 (.exit 2) .skip)
def w5_28 := wu b5_28.eq_1
def b5_29 : CC := (.seq (.seq b5_20 (.block 4 b5_25)) (.seq b5_26 (.seq b5_27 b5_28)))
def w5_29 := wu b5_29.eq_1
def b5_30 : CC := (.rf z30 [a31, a32] (.seq b5_15 b5_16) (.block 3 (.seq (.seq b5_17 b5_19) b5_29)))
def w5_30 := wu b5_30.eq_1
def b5_31 : CC := (.reg [(qq a92 (.ld1 z8)), (qq a93 (.bi .eql z92 (x6 1))), (qq a94 (.mv z93)), ⟨(some a95), .q (.ld1 z9), (some (a94, true))⟩, ⟨(some a96), .q (.ld1 z6), (some (a94, true))⟩, ⟨(some a97), .q (.ln .slice z96), (some (a94, true))⟩, ⟨(some a98), .q (.bi .neq z95 z97), (some (a94, true))⟩, (qq a99 (.pk z94 z98 xF)), (qq a100 (.mv z99)), ⟨(some a101), .q (.ld1 z8), (some (a100, false))⟩, ⟨(some a102), .q (.bi .eql z101 (x6 0)), (some (a100, false))⟩, ⟨(some a103), .q (.mv z102), (some (a100, false))⟩, ⟨(some a104), .q (.ld1 z9), (some (a103, true))⟩, ⟨(some a105), .q (.ld1 z6), (some (a103, true))⟩, ⟨(some a106), .q (.ln .slice z105), (some (a103, true))⟩, ⟨(some a107), .q (.bi .neq z104 z106), (some (a103, true))⟩, ⟨(some a108), .q (.pk z103 z107 xF), (some (a100, false))⟩, ⟨(some a109), .q (.mv z108), (some (a100, false))⟩, ⟨(some a110), .q (.ld1 z9), (some (a109, true))⟩, ⟨(some a111), .q (.ld1 z3), (some (a109, true))⟩, ⟨(some a112), .q (.bi .neq z110 z111), (some (a109, true))⟩, ⟨(some a113), .q (.pk z109 z112 xF), (some (a100, false))⟩, (qq a114 (.pk z100 xT z113))])
def w5_31 := wu b5_31.eq_1
def b5_32 : CC := (.reg [(ez (.st 1 z4 xF))])
def w5_32 := wu b5_32.eq_1
def b5_33 : CC := (.cond z114 (.seq b5_32 .ret) .skip)
def w5_33 := wu b5_33.eq_1
def b5_34 : CC := (.seq b5_13 (.seq (.seq b5_14 (.block 2 b5_30)) (.seq b5_31 b5_33)))
def w5_34 := wu b5_34.eq_1
def b5_35 : CC := (.reg [(qq a115 (.ld1 z8))])
def w5_35 := wu b5_35.eq_1
def b5_36 : CC := (.reg [(aa a8 (.al 3 [(.i .i64 0)])), (ez (.st 1 z8 z115))])
def w5_36 := wu b5_36.eq_1
def b5_37 : CC := (.reg [(qq a28 (.ld1 z8)), (qq a29 (.bi .add z28 (x6 1))), (ez (.st 1 z8 z29))])
def w5_37 := wu b5_37.eq_1
def b5_38 : CC := (.seq b5_12 (.seq (.block 1 b5_34) (.seq (.seq b5_35 b5_36) b5_37)))
def w5_38 := wu b5_38.eq_1
def b5_39 : CC := (.reg [(ee a116 (.call 9 [])), (ez (.st 1 z4 z116))])
def w5_39 := wu b5_39.eq_1
def b5_40 : CC := (.seq (.seq b5_10 (.block 0 (.loop b5_38))) (.seq b5_39 .ret))
def w5_40 := wu b5_40.eq_1
def b5_41 : CC := (.seq b5_1 (.seq b5_4 (.seq b5_5 (.seq b5_6 (.seq b5_9 b5_40)))))
def w5_41 := wu b5_41.eq_1
def c5 : CF := .mk 7 [.c1 a4] b5_41
theorem e5 (v0 v1 : V) : argTr 7 [v0, v1] = (.n (.n sk5 (some v1) sk5) (some v0) sk6) := rfl
def B5 := ai @e5 (ai @w5_1 (ai @w5_2 (ai @w5_3 (ai @w5_4 (ai @w5_5 (ai @w5_6 (ai @w5_7 (ai @w5_8 (ai @w5_9 (ai @w5_10 (ai @w5_11 (ai @w5_12 (ai @w5_13 (ai @w5_14 (ai @w5_15 (ai @w5_16 (ai @w5_17 (ai @w5_18 (ai @w5_19 (ai @w5_20 (ai @w5_21 (ai @w5_22 (ai @w5_23 (ai @w5_24 (ai @w5_25 (ai @w5_26 (ai @w5_27 (ai @w5_28 (ai @w5_29 (ai @w5_30 (ai @w5_31 (ai @w5_32 (ai @w5_33 (ai @w5_34 (ai @w5_35 (ai @w5_36 (ai @w5_37 (ai @w5_38 (ai @w5_39 (ai @w5_40 (@w5_41)))))))))))))))))))))))))))))))))))))))))
theorem clr25 (Φ : Nat → Option CF) {F : RO} {l : Nat} {M : Mem} {c0 cc c1 b tb kb qb sb rb : Nat} {pv g fv : V} {ps : List Pc} (hl : ps.length ≤ 1000000) (hb : M.get cc = some (rowB 59 [g, pv])) (h0 : c0 ≤ cc) (hA : AccAt M c0 cc b 64 2 pv (pcE ps)) (u : List (Option V)) (Q : Ex → St → Prop)
  (hQ : ∀ (u : List (Option V)) M', (∀ x, x < c0 ∨ cc ≤ x → M'.get x = M.get x) → Q .nrm (.mk ((.n (.n (.n (.n (uv7 u 63 31 95 15 79 47 111) (uO u 7) (uv7 u 71 39 103 23 87 55 119)) (some (.p sb 0)) (.n (uv7 u 67 35 99 19 83 51 115) (some (.p cc 0)) (uv7 u 75 43 107 27 91 59 123))) (uO u 1) (.n (.n (uv7 u 65 33 97 17 81 49 113) (some (.p kb 0)) (uv7 u 73 41 105 25 89 57 121)) (some (fv)) (.n (uv7 u 69 37 101 21 85 53 117) (uO u 13) (uv7 u 77 45 109 29 93 61 125)))) (uO u 0) (.n (.n (.n (uv7 u 64 32 96 16 80 48 112) (some (.p tb 0)) (uv7 u 72 40 104 24 88 56 120)) (some (.p rb 0)) (.n (uv7 u 68 36 100 20 84 52 116) (uO u 12) (uv7 u 76 44 108 28 92 60 124))) (uO u 2) (.n (.n (uv7 u 66 34 98 18 82 50 114) (uO u 10) (uv7 u 74 42 106 26 90 58 122)) (some (.p qb 0)) (.n (uv7 u 70 38 102 22 86 54 118) (uO u 14) (uv7 u 78 46 110 30 94 62 126)))))) [] M' c1)) :
  Wp (.seq b5_20 (.block 4 b5_25)) (K Φ (some l) 5 F) (.mk ((.n (.n (.n (.n (uv7 u 63 31 95 15 79 47 111) (uO u 7) (uv7 u 71 39 103 23 87 55 119)) (some (.p sb 0)) (.n (uv7 u 67 35 99 19 83 51 115) (some (.p cc 0)) (uv7 u 75 43 107 27 91 59 123))) (uO u 1) (.n (.n (uv7 u 65 33 97 17 81 49 113) (some (.p kb 0)) (uv7 u 73 41 105 25 89 57 121)) (some (fv)) (.n (uv7 u 69 37 101 21 85 53 117) (uO u 13) (uv7 u 77 45 109 29 93 61 125)))) (uO u 0) (.n (.n (.n (uv7 u 64 32 96 16 80 48 112) (some (.p tb 0)) (uv7 u 72 40 104 24 88 56 120)) (some (.p rb 0)) (.n (uv7 u 68 36 100 20 84 52 116) (uO u 12) (uv7 u 76 44 108 28 92 60 124))) (uO u 2) (.n (.n (uv7 u 66 34 98 18 82 50 114) (uO u 10) (uv7 u 74 42 106 26 90 58 122)) (some (.p qb 0)) (.n (uv7 u 70 38 102 22 86 54 118) (uO u 14) (uv7 u 78 46 110 30 94 62 126)))))) [] M c1) Q := by
 have hlv : lnL pv = some (.i .i64 (ps.length : Int)) := acc_len hA
 simp only [WX, w5_20, w5_25]
 obtain ⟨I, hI⟩ : ∃ I : Nat → St → Prop, ∀ n s', I n s' ↔ (∃ (i : Nat) (M1 : Mem) (u : List (Option V)), n = ps.length - i ∧ i ≤ ps.length ∧ s' = .mk ((.n (.n (.n (.n (uv7 u 63 31 95 15 79 47 111) (uO u 7) (uv7 u 71 39 103 23 87 55 119)) (some (.p sb 0)) (.n (uv7 u 67 35 99 19 83 51 115) (some (.p cc 0)) (uv7 u 75 43 107 27 91 59 123))) (uO u 1) (.n (.n (uv7 u 65 33 97 17 81 49 113) (some (.p kb 0)) (uv7 u 73 41 105 25 89 57 121)) (some (fv)) (.n (uv7 u 69 37 101 21 85 53 117) (uO u 13) (uv7 u 77 45 109 29 93 61 125)))) (uO u 0) (.n (.n (.n (uv7 u 64 32 96 16 80 48 112) (some (.p tb 0)) (uv7 u 72 40 104 24 88 56 120)) (some (.p rb 0)) (.n (uv7 u 68 36 100 20 84 52 116) (some (.i .i64 (i : Int))) (uv7 u 76 44 108 28 92 60 124))) (uO u 2) (.n (.n (uv7 u 66 34 98 18 82 50 114) (uO u 10) (uv7 u 74 42 106 26 90 58 122)) (some (.p qb 0)) (.n (uv7 u 70 38 102 22 86 54 118) (uO u 14) (uv7 u 78 46 110 30 94 62 126)))))) [] M1 c1 ∧ (∀ x, x < c0 ∨ cc ≤ x → M1.get x = M.get x) ∧ (ps.length = 0 ∨ (c0 ≤ b ∧ b < cc ∧ pv = .u b 0 ps.length 0 ps.length ∧ ∃ t, M1.get b = some (.cells 64 (ps.length * 2) false 0 false [] t)))) := ⟨fun n s => _, fun _ _ => Iff.rfl⟩
 have row0 : ps.length = 0 ∨ (c0 ≤ b ∧ b < cc ∧ pv = .u b 0 ps.length 0 ps.length ∧ ∃ t, M.get b = some (.cells 64 (ps.length * 2) false 0 false [] t)) := by
  rcases hA with ⟨_, ⟨h1, h2⟩ | ⟨h1, h2, h3, h4⟩⟩
  · exact .inl (by rw [← pcE_len, h1]; rfl)
  · have hlen : (pcE ps).flatten.length = ps.length * 2 := by
     rw [flat_len (sz := 2) (fun e he => by obtain ⟨p, _, rfl⟩ := List.mem_map.1 he; rfl), pcE_len]
    rw [pcE_len] at h3
    exact .inr ⟨h1, h2, h3, rowT (pcE ps).flatten, by rw [h4]; unfold rowU; rw [hlen]⟩
 refine wp_while I ?_ ps.length _ ((hI _ _).2 ⟨0, M, [_, _, _, none, none, none, none, _, none, none, _, none, none, _, _, _, _, _, _, _, _, _, _, _, _, _, _, _, _, _, _, _, _, _, _, _, _, _, _, _, _, _, _, _, _, _, _, _, _, _, _, _, _, _, _, _, _, _, _, _, _, _, _, _, _, _, _, _, _, _, _, _, _, _, _, _, _, _, _, _, _, _, _, _, _, _, _, _, _, _, _, _, _, _, _, _, _, _, _, _, _, _, _, _, _, _, _, _, _, _, _, _, _, _, _, _, _, _, _, _, _, _, _, _, _, _, _], rfl, Nat.zero_le _, rfl, fun _ _ => rfl, row0⟩)
 intro n s' hIs
 obtain ⟨i, M1, u, rfl, hi, rfl, hold, hrow⟩ := (hI _ _).1 hIs
 clear hIs
 have hb1 := (hold cc (.inr (Nat.le_refl _))).trans hb
 have hld : load1 F M1 cc 1 = some pv := load_row hb1 1
 by_cases hlt : i < ps.length
 · have d1 : decide ((i : Int) < (ps.length : Int)) = true := decide_eq_true (by omega)
   have q1 : biV .add (.i .i64 (i : Int)) (.i .i64 1) = some (.i .i64 ((i + 1 : Nat) : Int)) := by rw [i64_add _ _ (by omega) (by omega)]; simp
   rcases hrow with hrow | ⟨h1, h2, hpv, t, hrow⟩
   · omega
   have hia : iaSV 2 pv (.i .i64 (i : Int)) = some (.p b (0 + i * 2)) := by rw [hpv]; exact iaS_u _ _ _ _ _ _ _ _ hlt
   have hst := storeN_of (o := 0 + i * 2) (vs := [V.s 0 0, V.b false]) hrow (by simp; omega) (Nat.zero_le _) rfl
   obtain ⟨o, ho⟩ : ∃ o, o = 0 + i * 2 := ⟨_, rfl⟩
   rw [← ho] at hia hst
   simp only [WX, Nat.reduceAdd, B5, hld, hlv, d1, q1, hia, hst]
   exact ⟨ps.length - (i + 1), by omega, (hI _ _).2 ⟨i + 1, _, [_, _, _, none, none, none, none, _, none, none, _, none, none, _, _, _, _, _, _, _, _, _, _, _, _, _, _, _, _, _, _, _, _, _, _, _, _, _, _, _, _, _, _, _, _, _, _, _, _, _, _, _, _, _, _, _, _, _, _, _, _, _, _, _, _, _, _, _, _, _, _, _, _, _, _, _, _, _, _, _, _, _, _, _, _, _, _, _, _, _, _, _, _, _, _, _, _, _, _, _, _, _, _, _, _, _, _, _, _, _, _, _, _, _, _, _, _, _, _, _, _, _, _, _, _, _, _], rfl, hlt, rfl, fun x hx => (get_ne _ _ (by omega)).trans (hold x hx), .inr ⟨h1, h2, hpv, _, get_same _ _ _⟩⟩⟩
 · obtain rfl : i = ps.length := by omega
   have d1 : decide ((ps.length : Int) < (ps.length : Int)) = false := decide_eq_false (by omega)
   simp only [WX, Nat.reduceAdd, B5, hld, hlv, d1]
   exact hQ [_, _, _, none, none, none, none, _, none, none, _, none, _, _, _, _, _, _, _, _, _, _, _, _, _, _, _, _, _, _, _, _, _, _, _, _, _, _, _, _, _, _, _, _, _, _, _, _, _, _, _, _, _, _, _, _, _, _, _, _, _, _, _, _, _, _, _, _, _, _, _, _, _, _, _, _, _, _, _, _, _, _, _, _, _, _, _, _, _, _, _, _, _, _, _, _, _, _, _, _, _, _, _, _, _, _, _, _, _, _, _, _, _, _, _, _, _, _, _, _, _, _, _, _, _, _, _] M1 hold
theorem tk_at {F : RO} {M : Mem} {c : Nat} {v : V} {ts : List (Tk × V)} (h : SlAt F M c 3 v (tkE ts)) (i : Nat) (hi : i < ts.length) : ∃ b o, b < c ∧ (∀ k, iaSV 3 v (.i k (i : Int)) = some (.p b o)) ∧ load1 F M b o = some (.i .i64 (ts[i].1.1 : Int)) ∧ load1 F M b (o + 1) = some (sV ts[i].1.2.1) ∧ loadN F M b (o + 2) 1 = some [ts[i].2] := by
 obtain ⟨b, o, h1, h2, h3⟩ := h.at i (by rw [tkE_len]; exact hi)
 have e : (tkE ts)[i]'(by rw [tkE_len]; exact hi) = tkc ts[i] := by simp [tkE]
 rw [e] at h3
 have a0 := h3 0 (by simp [tkc])
 have a1 := h3 1 (by simp [tkc])
 have a2 := h3.loadN 2 1 (by simp [tkc]) (by omega)
 exact ⟨b, o, h1, h2, a0, a1, a2⟩
theorem biQ_sn {F : RO} (a b : List UInt8) (M : Mem) : biQ .neq (sV a) (sV b) F M = oV (biV .neq (sV a) (sV b)) := by
 refine (dq_of ?_).trans (congrArg oV (v_bi (F := F) .neq _ _ M .e))
 intro F' M'
 show vB (!strEq a.length (strN a) b.length (strN b)) = oV (vB (!strEq a.length (strN a) b.length (strN b))).val
 rw [vB_eq]; rfl
theorem cmp17 (Φ : Nat → Option CF) (h22 : Φ 22 = some c22) {F : RO} {l k : Nat} {M : Mem} {cc c1 tb kb qb sb rb : Nat} {pv ws fv : V} {ts : List (Tk × V)} (ok : Okm F M c1) (hk : k < ts.length) (hl : ts[k].1.2.2.length ≤ 1000000)
  (lk : load1 F M kb 0 = some (.i .i64 (k : Int))) (lq : load1 F M qb 0 = some ws) (lc0 : load1 F M cc 0 = some (sV ts[k].1.2.1)) (lc1 : loadN F M cc 1 1 = some [pv])
  (hws : SlAt F M c1 3 ws (tkE ts)) (hp1 : SlAt F M c1 2 pv (pcE ts[k].1.2.2)) (hp2 : SlAt F M c1 2 ts[k].2 (pcE ts[k].1.2.2)) (u : List (Option V)) (Q : Ex → St → Prop)
  (hQ : ∀ (u : List (Option V)) M' c', Gr c1 M c' M' → Q .nrm (.mk ((.n (.n (.n (.n (uv7 u 63 31 95 15 79 47 111) (uO u 7) (uv7 u 71 39 103 23 87 55 119)) (some (.p sb 0)) (.n (uv7 u 67 35 99 19 83 51 115) (some (.p cc 0)) (uv7 u 75 43 107 27 91 59 123))) (uO u 1) (.n (.n (uv7 u 65 33 97 17 81 49 113) (some (.p kb 0)) (uv7 u 73 41 105 25 89 57 121)) (some (fv)) (.n (uv7 u 69 37 101 21 85 53 117) (uO u 13) (uv7 u 77 45 109 29 93 61 125)))) (uO u 0) (.n (.n (.n (uv7 u 64 32 96 16 80 48 112) (some (.p tb 0)) (uv7 u 72 40 104 24 88 56 120)) (some (.p rb 0)) (.n (uv7 u 68 36 100 20 84 52 116) (uO u 12) (uv7 u 76 44 108 28 92 60 124))) (uO u 2) (.n (.n (uv7 u 66 34 98 18 82 50 114) (uO u 10) (uv7 u 74 42 106 26 90 58 122)) (some (.p qb 0)) (.n (uv7 u 70 38 102 22 86 54 118) (uO u 14) (uv7 u 78 46 110 30 94 62 126)))))) [] M' c')) :
  Wp (.seq b5_17 b5_19) (K Φ (some l) 5 F) (.mk ((.n (.n (.n (.n (uv7 u 63 31 95 15 79 47 111) (uO u 7) (uv7 u 71 39 103 23 87 55 119)) (some (.p sb 0)) (.n (uv7 u 67 35 99 19 83 51 115) (some (.p cc 0)) (uv7 u 75 43 107 27 91 59 123))) (uO u 1) (.n (.n (uv7 u 65 33 97 17 81 49 113) (some (.p kb 0)) (uv7 u 73 41 105 25 89 57 121)) (some (fv)) (.n (uv7 u 69 37 101 21 85 53 117) (uO u 13) (uv7 u 77 45 109 29 93 61 125)))) (uO u 0) (.n (.n (.n (uv7 u 64 32 96 16 80 48 112) (some (.p tb 0)) (uv7 u 72 40 104 24 88 56 120)) (some (.p rb 0)) (.n (uv7 u 68 36 100 20 84 52 116) (uO u 12) (uv7 u 76 44 108 28 92 60 124))) (uO u 2) (.n (.n (uv7 u 66 34 98 18 82 50 114) (some (.i .i64 (ts[k].1.1 : Int))) (uv7 u 74 42 106 26 90 58 122)) (some (.p qb 0)) (.n (uv7 u 70 38 102 22 86 54 118) (uO u 14) (uv7 u 78 46 110 30 94 62 126)))))) [] M c1) Q := by
 have hfr := ok.free
 have n1 : lnL ws = some (.i .i64 (ts.length : Int)) := by have := hws.len; rwa [tkE_len] at this
 have d1 : decide ((ts.length : Int) ≤ (k : Int)) = false := decide_eq_false (by omega)
 obtain ⟨b, o, _, ia, e0, e1, e2⟩ := tk_at hws k hk
 have ia := ia .i64
 have q0 : biV .neq (sV ts[k].1.2.1) (sV ts[k].1.2.1) = some (.b false) := by rw [bi_sne, decide_eq_true rfl]; rfl
 generalize ts[k] = t at *
 simp only [WX, Nat.reducePow, Nat.reduceDiv, Nat.reduceMod, Nat.reduceBEq, Nat.reduceAdd, wd_e1, B5, Nat.add_zero, lk, lq, n1, d1, ia, e0, e1, e2, lc0, lc1, biQ_sn, q0, wd_e1, eq_self, ne_eq, not_true_eq_false]
 have g36 : Gr c1 M (c1 + 36) M := (Gr.refl ok).up (by omega)
 refine putDE_to ((r22 Φ h22 (g36.ok ok) hl (hp1.grow g36) (hp2.grow g36)).mono ?_)
 rintro r M' c' ⟨rfl, g⟩
 have gT := g36.trans g
 refine ⟨(gT.ok ok).free, ?_⟩
 simp only [WX, B5]
 exact hQ [_, _, _, none, none, none, none, _, none, none, _, none, _, _, _, _, _, _, _, _, _, _, _, _, _, _, _, _, _, _, _, _, _, _, _, _, _, _, _, _, _, _, _, _, _, _, _, _, _, _, _, _, _, _, _, _, _, _, _, _, _, _, _, _, _, _, _, _, _, _, _, _, _, _, _, _, _, _, _, _, _, _, _, _, _, _, _, _, _, _, _, _, _, _, _, _, _, _, _, _, _, _, _, _, _, _, _, _, _, _, _, _, _, _, _, _, _, _, _, _, _, _, _, _, _, _, _] M' c' gT
theorem bd5 (Φ : Nat → Option CF) (h22 : Φ 22 = some c22) {F : RO} {l k : Nat} {M : Mem} {c0 cc c1 b tb kb qb sb rb turn : Nat} {lv : Int} {pv ws fv : V} {ts : List (Tk × V)} (ok : Okm F M c1) (hk : k < ts.length) (hk9 : k < 9001) (hl : ts[k].1.2.2.length ≤ 1000000)
  (mb : M.get cc = some (rowB 59 [sV ts[k].1.2.1, pv])) (mt : M.get tb = some (rowB 3 [.i .i64 (turn : Int)])) (mk : M.get kb = some (rowB 3 [.i .i64 (k : Int)])) (mq : M.get qb = some (rowB 55 [ws])) (ms : M.get sb = some (rowB 3 [.i .i64 lv]))
  (o1 : sb < kb) (o2 : qb < kb) (o3 : tb < kb) (o4 : kb < c0) (o5 : c0 ≤ cc) (o6 : cc < c1)
  (hA : AccAt M c0 cc b 64 2 pv (pcE ts[k].1.2.2)) (hws : SlAt F M c1 3 ws (tkE ts)) (hp2 : SlAt F M c1 2 ts[k].2 (pcE ts[k].1.2.2)) (u : List (Option V)) (Q : Ex → St → Prop)
  (hQ : ∀ (t : T) M' c', c1 ≤ c' → (∀ x, x < c0 → x ≠ kb → M'.get x = M.get x) → M'.get kb = some (rowB 3 [.i .i64 ((k + 1 : Nat) : Int)]) → (∀ x, c' ≤ x → M'.get x = none) → ((turn = 0 ∧ ((k + 1 : Nat) : Int) = lv) → Q (.ext 2) (.mk t [] M' c')) ∧ (¬ (turn = 0 ∧ ((k + 1 : Nat) : Int) = lv) → Q .nrm (.mk t [] M' c'))) :
  Wp (.block 3 (.seq (.seq b5_17 b5_19) b5_29)) (K Φ (some l) 5 F) (.mk ((.n (.n (.n (.n (uv7 u 63 31 95 15 79 47 111) (uO u 7) (uv7 u 71 39 103 23 87 55 119)) (some (.p sb 0)) (.n (uv7 u 67 35 99 19 83 51 115) (some (.p cc 0)) (uv7 u 75 43 107 27 91 59 123))) (uO u 1) (.n (.n (uv7 u 65 33 97 17 81 49 113) (some (.p kb 0)) (uv7 u 73 41 105 25 89 57 121)) (some (fv)) (.n (uv7 u 69 37 101 21 85 53 117) (uO u 13) (uv7 u 77 45 109 29 93 61 125)))) (uO u 0) (.n (.n (.n (uv7 u 64 32 96 16 80 48 112) (some (.p tb 0)) (uv7 u 72 40 104 24 88 56 120)) (some (.p rb 0)) (.n (uv7 u 68 36 100 20 84 52 116) (uO u 12) (uv7 u 76 44 108 28 92 60 124))) (uO u 2) (.n (.n (uv7 u 66 34 98 18 82 50 114) (some (.i .i64 (ts[k].1.1 : Int))) (uv7 u 74 42 106 26 90 58 122)) (some (.p qb 0)) (.n (uv7 u 70 38 102 22 86 54 118) (uO u 14) (uv7 u 78 46 110 30 94 62 126)))))) [] M c1) Q := by
 rw [wp_block, wp_seq]
 refine cmp17 Φ h22 ok hk hl (load_row mk 0) (load_row mq 0) (load_row mb 0) (show loadN F M cc 1 1 = some [pv] by rw [set_same mb, loadN_same _ _ _ _ _ _ (by simp)]; rfl) hws ?_ hp2 u _ ?_
 · exact (hA.sl (F := F)).grow ((Gr.refl ok).up (Nat.le_refl _) |> fun g => ⟨by omega, fun _ _ => rfl, g.new⟩)
 intro u M2 c2 g2
 have mb2 := (g2.old cc o6).trans mb
 rw [seqQ_nrm]
 show Wp (.seq (.seq b5_20 (.block 4 b5_25)) (.seq b5_26 (.seq b5_27 b5_28))) _ _ _
 rw [wp_seq]
 refine clr25 Φ hl mb2 o5 (hA.up (Nat.le_refl _) (fun hb => g2.old b (by omega))) u _ ?_
 intro u M3 hold
 rw [seqQ_nrm]
 have hle := g2.le
 have l_k : M3.get kb = some (rowB 3 [.i .i64 (k : Int)]) := (hold kb (.inl o4)).trans ((g2.old kb (by omega)).trans mk)
 have l_t : M3.get tb = some (rowB 3 [.i .i64 (turn : Int)]) := (hold tb (.inl (by omega))).trans ((g2.old tb (by omega)).trans mt)
 have l_s : M3.get sb = some (rowB 3 [.i .i64 lv]) := (hold sb (.inl (by omega))).trans ((g2.old sb (by omega)).trans ms)
 have k1 : load1 F M3 kb 0 = some (.i .i64 (k : Int)) := load_row l_k 0
 have k2 : load1 F M3 tb 0 = some (.i .i64 (turn : Int)) := load_row l_t 0
 have k3 : load1 F M3 sb 0 = some (.i .i64 lv) := load_row l_s 0
 have q3 : biV .add (.i .i64 (k : Int)) (.i .i64 1) = some (.i .i64 ((k + 1 : Nat) : Int)) := by rw [i64_add _ _ (by omega) (by omega)]; simp
 have hst := store_row l_k 0 [.i .i64 ((k + 1 : Nat) : Int)] (by simp) rfl
 have n_t : tb ≠ kb := by omega
 have n_s : sb ≠ kb := by omega
 have fin := fun t => hQ t (M3.set kb (rowB 3 [.i .i64 ((k + 1 : Nat) : Int)])) c2 hle (fun x h1 h2 => by rw [get_ne _ _ h2, hold x (.inl h1)]; exact g2.old x (by omega)) (get_same _ _ _) (fun x hx => by rw [get_ne _ _ (by omega), hold x (.inr (by omega))]; exact g2.new x hx)
 by_cases ht0 : turn = 0
 · have d0 : decide ((turn : Int) = 0) = true := decide_eq_true (by omega)
   by_cases hlv : ((k + 1 : Nat) : Int) = lv
   · have d1 : decide (((k + 1 : Nat) : Int) = lv) = true := decide_eq_true hlv
     simp only [WX, Nat.reduceEqDiff, B5, k1, k2, k3, q3, hst, n_t, n_s, d0, d1, eq_self, ne_eq, not_false_eq_true]
     exact (fin _).1 ⟨ht0, hlv⟩
   · have d1 : decide (((k + 1 : Nat) : Int) = lv) = false := decide_eq_false hlv
     simp only [WX, B5, k1, k2, k3, q3, hst, n_t, n_s, d0, d1, eq_self, ne_eq, not_false_eq_true]
     exact (fin _).2 (fun h => hlv h.2)
 · have d0 : decide ((turn : Int) = 0) = false := decide_eq_false (by omega)
   simp only [WX, B5, k1, k2, q3, hst, n_t, d0, eq_self, ne_eq, not_false_eq_true]
   exact (fin _).2 (fun h => ht0 h.1)
theorem rdF_len : ∀ (f : Nat) (r : List UInt8) (w : List Pc) (text : List UInt8) (sm : Bool) (n : Nat) (ps : List Pc) (m : Nat), rdF f r w text sm n = some (ps, m) → ps.length ≤ w.length + 2 * f
 | 0, _, _, _, _, _, _, _, h => by cases h
 | f + 1, r, w, text, sm, n, ps, m, h => by
   rw [rdF] at h
   split at h
   · injection h with h; injection h with h1 h2
     rw [← h1]; unfold rdEnd; split <;> simp <;> omega
   · cases h
   · have := rdF_len f _ _ _ _ _ _ _ h
     have e : (rdMid w text).length ≤ w.length + 2 := by unfold rdMid; split <;> simp
     omega
   · have := rdF_len f _ _ _ _ _ _ _ h
     omega
theorem tkF_pl : ∀ (f : Nat) (r : List UInt8) (i : Nat), ∀ t ∈ tkF f r i, t.2.2.length ≤ 2 * (r.length + 1)
 | 0, _, _, t, h => by cases h
 | _ + 1, [], _, t, h => by cases h
 | f + 1, x :: l, i, t, h => by
   unfold tkF at h
   split at h
   · have := tkF_pl f l _ t h; rw [List.length_cons]; omega
   · split at h
     · rcases List.mem_cons.1 h with rfl | h
       · simp
       · have := tkF_pl f _ _ t h; rw [List.length_drop] at this; omega
     · split at h
       · cases h
       · rename_i ps n hr
         split at h
         · cases h
         · rcases List.mem_cons.1 h with rfl | h
           · have := rdF_len _ _ _ _ _ _ _ _ hr
             simp only [List.length_nil] at this
             show ps.length ≤ _
             omega
           · have := tkF_pl f _ _ t h; rw [List.length_drop] at this; omega
theorem eqV_fn {F : RO} (lit : Bool) (M : Mem) (f : Nat) (a b : List V) : eqV F M .func lit (.f f a b) .f0 = some false := rfl
theorem takeDefs_all : ∀ {ds : List Nat} {M : Mem}, ds.Nodup → (∀ x ∈ ds, M.get x = some (.defs false)) → ∃ M', takeDefs ds M = some M' ∧ ∀ b, b ∉ ds → M'.get b = M.get b
 | [], M, _, _ => ⟨M, rfl, fun _ _ => rfl⟩
 | d :: r, M, hn, h => by
   rw [List.nodup_cons] at hn
   obtain ⟨M', h1, h2⟩ := takeDefs_all (ds := r) (M := M.set d (.defs true)) hn.2 (fun x hx => by
    rw [get_ne _ _ (by intro e; subst e; exact hn.1 hx)]
    exact h x (List.mem_cons_of_mem _ hx))
   refine ⟨M', by rw [takeDefs_one (h d (List.mem_cons_self ..))]; exact h1, fun b hb => ?_⟩
   rw [List.mem_cons, not_or] at hb
   rw [h2 b hb.2, get_ne _ _ hb.1]
theorem sl_one3 {F : RO} {M : Mem} {c : Nat} {v : V} {ts : List (Tk × V)} (h : SlAt F M c 3 v (tkE ts)) : isOne v = true ∧ flatten v = [v] ∧ allOne [v] = true := by
 rcases h with ⟨_, ⟨_, rfl | ⟨b, o0, o, rfl⟩⟩ | ⟨b, o, ⟨cap, _, rfl⟩ | ⟨el, kn, _, rfl⟩, _⟩⟩ <;> exact ⟨rfl, rfl, rfl⟩
theorem l5 (Φ : Nat → Option CF) (h : Φ 5 = some c5) {L : List Tab} (h9 : Φ 9 = some (.orc (knownO L))) (h20 : Φ 20 = some c20) (h21 : Φ 21 = some c21) (h22 : Φ 22 = some c22) (h43 : Φ 43 = some c43) (h28 : Φ 28 = some c28) (h45 : Φ 45 = some c45) (h44 : Φ 44 = some (.orc (pureO h44))) (h68 : Φ 68 = some (.orc (pureO h75))) (h69 : Φ 69 = some (.orc (pureO h78))) (h56 : Φ 56 = some c56) (h55 : Φ 55 = some (.orc (pureO h55))) (h73 : Φ 73 = some (.orc (pureO h73))) (h75 : Φ 75 = some (.orc (pureO h75))) (h76 : Φ 76 = some (.orc (pureO h88))) (h77 : Φ 77 = some (.orc (pureO h77))) (h74 : Φ 74 = some c74)
  {F : RO} {M : Mem} {c : Nat} (lv : Int) (ok : Okm F M c) (hc : 1000 ≤ c) (ht : tabsIn F L = true) (s : List UInt8) :
  Calls Φ F 5 [sV s, .i .i64 lv] M c fun r _ _ => r = .b true := by
 have hkn := fun M c => knownO_nil ht M c
 refine calls_walk h ?_
 by_cases hlen : 9000 < s.length
 · have hd : decide ((9000 : Int) < (s.length : Int)) = true := decide_eq_true (by omega)
   simp only [WX, Nat.reduceAdd, Nat.reduceLeDiff, B5, hd, h9, hkn]
 · have hd : decide ((9000 : Int) < (s.length : Int)) = false := decide_eq_false (by omega)
   have hX : Gr c M (c + 2) ((M.set c (rowB 3 [.i .i64 lv])).set (c + 1) (rowB 4 [.b false])) := ((Gr.refl ok).set c _ (Nat.le_refl _) (Nat.lt_succ_self _) (Nat.le_succ _)).set (c + 1) _ (by omega) (by omega) (by omega)
   have g3 : ((M.set c (rowB 3 [V.i .i64 lv])).set (c + 1) (rowB 4 [V.b false])).get c = some (rowB 3 [.i .i64 lv]) := by rw [get_ne _ _ (by omega), get_same]
   have g4 : ((M.set c (rowB 3 [V.i .i64 lv])).set (c + 1) (rowB 4 [V.b false])).get (c + 1) = some (rowB 4 [.b false]) := get_same _ _ _
   simp only [WX, Nat.reduceAdd, B5, hd]
   generalize (M.set c (rowB 3 [V.i .i64 lv])).set (c + 1) (rowB 4 [V.b false]) = X at hX g3 g4 ⊢
   have okX := hX.ok ok
   refine putE_to ((r20 Φ h20 okX s).mono ?_)
   rintro v2 M2 c2 ⟨pb, rfl, hpb1, hpb2, hbox, hg2⟩
   have ok2 := hg2.ok okX
   simp only [WX, B5]
   refine putE_to ((r21 Φ h21 h45 h44 h68 h69 ok2 s (by omega)).mono ?_)
   rintro wx M3 c3 ⟨⟨ts, ws, xx, hmap, rfl, hws, hpp⟩, hg3⟩
   have ok3 := hg3.ok ok2
   obtain ⟨w1, w2, w3⟩ := sl_one3 hws
   simp only [WX, Nat.reduceAdd, Nat.reduceLeDiff, B5, w2, w3, eqV_fn]
   have hle2 := hg2.le
   have hle3 := hg3.le
   have gZ : Gr c3 M3 (c3 + 1) (M3.set c3 (rowB 55 [ws])) := (Gr.refl ok3).set c3 _ (Nat.le_refl _) (Nat.lt_succ_self _) (Nat.le_succ _)
   have gY : Gr (c + 2) X (c3 + 1) (M3.set c3 (rowB 55 [ws])) := (hg2.trans hg3).trans gZ
   have gW : Gr c M (c3 + 1) (M3.set c3 (rowB 55 [ws])) := hX.trans gY
   have z3 := (gY.old c (by omega)).trans g3
   have z4 := (gY.old (c + 1) (by omega)).trans g4
   have zp := (gZ.old pb (by omega)).trans ((hg3.old pb hpb2).trans hbox)
   have z7 : (M3.set c3 (rowB 55 [ws])).get c3 = some (rowB 55 [ws]) := get_same _ _ _
   have okZ := gZ.ok ok3
   have zs := hws.grow gZ
   have zpp := fun t ht => (hpp t ht).grow gZ
   clear hws hpp hg3 hg2 gZ gY gW hX g3 g4 hbox w1 w2 w3 ok3 ok2 okX hd
   generalize M3.set c3 (rowB 55 [ws]) = Z at z3 z4 zp z7 okZ zs zpp ⊢
   have hpl := tk_len s 0
   have htl : ts.length = (tk s 0).length := by rw [← hmap, List.length_map]
   have hel : ∀ k (h1 : k < ts.length) (h2 : k < (tk s 0).length), (tk s 0)[k] = ts[k].1 := by
    intro k h1 h2
    have : (ts.map (·.1))[k]'(by rw [List.length_map]; exact h1) = (tk s 0)[k] := List.getElem_of_eq hmap _
    rw [← this, List.getElem_map]
   have n1 : lnL ws = some (.i .i64 ((tk s 0).length : Int)) := by have := zs.len; rwa [tkE_len, htl] at this
   obtain ⟨I2, hI2⟩ : ∃ I : Nat → St → Prop, ∀ n s', I n s' ↔ (∃ (turn tb : Nat) (M1 : Mem) (c1 : Nat) (ds : List Nat) (u : List (Option V)), n = 2 - turn ∧ turn ≤ 2 ∧ s' = .mk ((.n (.n (.n (.n (uv7 u 63 31 95 15 79 47 111) (uO u 7) (uv7 u 71 39 103 23 87 55 119)) (some (.p c 0)) (.n (uv7 u 67 35 99 19 83 51 115) (uO u 11) (uv7 u 75 43 107 27 91 59 123))) (uO u 1) (.n (.n (uv7 u 65 33 97 17 81 49 113) (uO u 9) (uv7 u 73 41 105 25 89 57 121)) (some (.f 43 [] [.p pb 0])) (.n (uv7 u 69 37 101 21 85 53 117) (uO u 13) (uv7 u 77 45 109 29 93 61 125)))) (uO u 0) (.n (.n (.n (uv7 u 64 32 96 16 80 48 112) (some (.p tb 0)) (uv7 u 72 40 104 24 88 56 120)) (some (.p (c + 1) 0)) (.n (uv7 u 68 36 100 20 84 52 116) (uO u 12) (uv7 u 76 44 108 28 92 60 124))) (uO u 2) (.n (.n (uv7 u 66 34 98 18 82 50 114) (uO u 10) (uv7 u 74 42 106 26 90 58 122)) (some (.p c3 0)) (.n (uv7 u 70 38 102 22 86 54 118) (uO u 14) (uv7 u 78 46 110 30 94 62 126)))))) ds M1 c1 ∧ Gr (c3 + 1) Z c1 M1 ∧ c3 + 1 ≤ tb ∧ tb < c1 ∧ M1.get tb = some (rowB 3 [.i .i64 (turn : Int)]) ∧ ds.Nodup ∧ ∀ x ∈ ds, c3 + 1 ≤ x ∧ x < c1 ∧ M1.get x = some (.defs false)) := ⟨fun n s => _, fun _ _ => Iff.rfl⟩
   refine wp_while I2 ?_ 2 _ ((hI2 _ _).2 ⟨0, c3 + 1, _, _, [], [_, _, _, none, none, none, none, _, none, _, _, _, _, _, _, _, _, _, _, _, _, _, _, _, _, _, _, _, _, _, _, _, _, _, _, _, _, _, _, _, _, _, _, _, _, _, _, _, _, _, _, _, _, _, _, _, _, _, _, _, _, _, _, _, _, _, _, _, _, _, _, _, _, _, _, _, _, _, _, _, _, _, _, _, _, _, _, _, _, _, _, _, _, _, _, _, _, _, _, _, _, _, _, _, _, _, _, _, _, _, _, _, _, _, _, _, _, _, _, _, _, _, _, _, _, _, _], rfl, by omega, rfl, (Gr.refl okZ).set (c3 + 1) _ (Nat.le_refl _) (by omega) (by omega), Nat.le_refl _, by omega, get_same _ _ _, List.nodup_nil, fun x hx => (by cases hx)⟩)
   intro n s' hIs
   obtain ⟨turn, tb, M1, c1', ds, u, rfl, hturn, rfl, hg, htb1, htb2, hgt, hnd, hds⟩ := (hI2 _ _).1 hIs
   clear hIs
   have hgle := hg.le
   have ldt : load1 F M1 tb 0 = some (.i .i64 (turn : Int)) := by rw [set_same hgt, load1_same]; rfl
   by_cases ht2 : turn < 2
   · have hd2 : decide ((turn : Int) < 2) = true := decide_eq_true (by omega)
     simp only [WX, Nat.reduceLeDiff, w5_11, w5_12, w5_13, w5_14, w5_34, w5_38, ldt, hd2]
     refine wp_rf0 ?_
     simp only [WX, Nat.reduceAdd, callI_f]
     obtain ⟨BL, hBL⟩ : ∃ BL : LS → Pend → Blk, BL = fun s' p => Blk.loop s' p 5 ((.n (.n (.n (.n (uv7 u 63 31 95 15 79 47 111) (uO u 7) (uv7 u 71 39 103 23 87 55 119)) (some (.p c 0)) (.n (uv7 u 67 35 99 19 83 51 115) (uO u 11) (.n (uv3 u 75 43 107) (some (.b true)) (uv3 u 91 59 123)))) (uO u 1) (.n (.n (uv7 u 65 33 97 17 81 49 113) (some (.p c1' 0)) (uv7 u 73 41 105 25 89 57 121)) (some (.f 43 [] [.p pb 0])) (.n (uv7 u 69 37 101 21 85 53 117) (uO u 13) (uv7 u 77 45 109 29 93 61 125)))) (uO u 0) (.n (.n (.n (uv7 u 64 32 96 16 80 48 112) (some (.p tb 0)) (uv7 u 72 40 104 24 88 56 120)) (some (.p (c + 1) 0)) (.n (uv7 u 68 36 100 20 84 52 116) (uO u 12) (uv7 u 76 44 108 28 92 60 124))) (uO u 2) (.n (.n (uv7 u 66 34 98 18 82 50 114) (uO u 10) (.n (uv3 u 74 42 106) (some (.i .i64 (turn : Int))) (uv3 u 90 58 122))) (some (.p c3 0)) (.n (uv7 u 70 38 102 22 86 54 118) (uO u 14) (.n (uv3 u 78 46 110) (some (.f 43 [] [.p pb 0])) (uv3 u 94 62 126))))))) [(.l (.l (.l (.l (.l .h))))), (.r (.l (.l (.l (.l .h)))))] (b5_15.seq b5_16) (.block 3 (.seq (.seq b5_17 b5_19) b5_29)) (c1' + 1) := ⟨_, rfl⟩
     obtain ⟨Ik, hIk⟩ : ∃ I : Nat → Mem → Nat → Prop, ∀ k M cc, I k M cc ↔ (Gr (c3 + 1) Z cc M ∧ c1' + 3 ≤ cc ∧ M.get tb = some (rowB 3 [.i .i64 (turn : Int)]) ∧ M.get c1' = some (rowB 3 [.i .i64 (k : Int)]) ∧ M.get (c1' + 2) = some (BL .ready .none) ∧ (∀ x ∈ (c1' + 1) :: ds, M.get x = some (.defs false)) ∧ k ≤ (tk s 0).length) := ⟨fun k M cc => _, fun _ _ _ => Iff.rfl⟩
     obtain ⟨J, hJ⟩ : ∃ J : Mem → Nat → Prop, ∀ M cc, J M cc ↔ (∃ k : Nat, Gr (c3 + 1) Z cc M ∧ c1' + 3 ≤ cc ∧ M.get tb = some (rowB 3 [.i .i64 (turn : Int)]) ∧ M.get c1' = some (rowB 3 [.i .i64 (k : Int)]) ∧ M.get (c1' + 2) = some (BL .done (.ext 2)) ∧ (∀ x ∈ (c1' + 1) :: ds, M.get x = some (.defs false)) ∧ turn = 0 ∧ (k : Int) = lv) := ⟨fun M cc => _, fun _ _ => Iff.rfl⟩
     refine (r43 Φ h43 h28 h56 h55 h73 h75 h76 h77 h74 (y := c1' + 2) (pb := pb) (s := s) (by omega) ?_ (I := Ik) (J := J) ?_ ?_ ?_ ?_).mono ?_
     · rw [get_ne _ _ (by omega), get_ne _ _ (by omega), get_ne _ _ (by omega)]; exact (hg.old pb (by omega)).trans zp
     · refine (hIk _ _ _).2 ⟨((hg.set c1' _ (by omega) (Nat.lt_succ_self _) (by omega)).set (c1' + 1) _ (by omega) (Nat.lt_succ_self _) (by omega)).set (c1' + 1 + 1) _ (by omega) (by omega) (by omega), by omega, ?_, ?_, ?_, ?_, Nat.zero_le _⟩
       · rw [get_ne _ _ (by omega), get_ne _ _ (by omega), get_ne _ _ (by omega)]; exact hgt
       · rw [get_ne _ _ (by omega), get_ne _ _ (by omega)]; exact get_same _ _ _
       · rw [hBL]; exact get_same _ _ _
       · intro x hx
         rcases List.mem_cons.1 hx with rfl | hx
         · rw [get_ne _ _ (by omega)]; exact get_same _ _ _
         · have := hds x hx
           rw [get_ne _ _ (by omega), get_ne _ _ (by omega), get_ne _ _ (by omega)]; exact this.2.2
     · intro k M2 cc hi
       obtain ⟨a1, a2, a3, a4, a5, a6, a7⟩ := (hIk _ _ _).1 hi
       exact ⟨a1.ok okZ, a2⟩
     · intro k M2 cc M4 c4 hi g
       obtain ⟨a1, a2, a3, a4, a5, a6, a7⟩ := (hIk _ _ _).1 hi
       have hle := g.le
       refine (hIk _ _ _).2 ⟨a1.trans g, by omega, (g.old _ (by omega)).trans a3, (g.old _ (by omega)).trans a4, (g.old _ (by omega)).trans a5, fun x hx => ?_, a7⟩
       have hxc : x < cc := by
        rcases List.mem_cons.1 hx with rfl | hx
        · omega
        · have := hds x hx; omega
       exact (g.old x hxc).trans (a6 x hx)
     · intro k M2 cc pv bb hklt hi hpv hA
       obtain ⟨a1, a2, a3, a4, a5, a6, a7⟩ := (hIk _ _ _).1 hi
       have hkt : k < ts.length := by omega
       rw [hel k hkt hklt] at hA ⊢
       have hpll : ts[k].1.2.2.length ≤ 1000000 := by
        have hm : ts[k].1 ∈ tk s 0 := by rw [← hel k hkt hklt]; exact List.getElem_mem _
        have := tkF_pl _ _ _ _ hm
        omega
       have hl5 := a5
       rw [hBL] at hl5
       have hG2 : ∀ a b : V, flatten (V.g [a, b]) = [a, b] := fun _ _ => rfl
       have a2v : ∀ w v, isOne v = true → allOne [sV w, v] = true := fun w v hv => by rw [allOne_cons, allOne_cons, allOne_nil, hv]; rfl
       refine yield_of hl5 (setParams_two _ _ _ _ _) ?_
       simp only [WX, Nat.reduceAdd, Nat.reduceLeDiff, w5_15, w5_16, hG2, a2v _ _ hpv]
       have gC := a1.set (c2 := cc + 1) cc (rowB 59 [sV ts[k].1.2.1, pv]) (by omega) (Nat.lt_succ_self _) (Nat.le_succ _)
       have m_cc : (M2.set cc (rowB 59 [sV ts[k].1.2.1, pv])).get cc = some (rowB 59 [sV ts[k].1.2.1, pv]) := get_same _ _ _
       have m_5 : (M2.set cc (rowB 59 [sV ts[k].1.2.1, pv])).get (c1' + 2) = some (BL .ready .none) := (get_ne _ _ (by omega)).trans a5
       have hl6 := m_5
       rw [hBL] at hl6
       refine asgQ_of hl6 ?_
       have m_o : ∀ b, b < cc → (M2.set cc (rowB 59 [sV ts[k].1.2.1, pv])).get b = M2.get b := fun b hb => get_ne _ _ (by omega)
       have hA1 : AccAt (M2.set cc (rowB 59 [sV ts[k].1.2.1, pv])) (c1' + 3) cc bb 64 2 pv (pcE ts[k].1.2.2) := hA.up (Nat.le_refl _) (fun hb => get_ne _ _ (by omega))
       generalize M2.set cc (rowB 59 [sV ts[k].1.2.1, pv]) = MC at gC m_cc m_5 m_o hA1 ⊢
       have gMB := gC.set (c1' + 2) (BL .busy .none) (by omega) (by omega) (Nat.le_refl _)
       have m_y : (MC.set (c1' + 2) (BL .busy .none)).get (c1' + 2) = some (BL .busy .none) := get_same _ _ _
       have m_p : ∀ b, b < cc → b ≠ c1' + 2 → (MC.set (c1' + 2) (BL .busy .none)).get b = M2.get b := fun b h1 h2 => (get_ne _ _ h2).trans (m_o b h1)
       have m_c2 : (MC.set (c1' + 2) (BL .busy .none)).get cc = some (rowB 59 [sV ts[k].1.2.1, pv]) := (get_ne _ _ (by omega)).trans m_cc
       have hA2 : AccAt (MC.set (c1' + 2) (BL .busy .none)) (c1' + 3) cc bb 64 2 pv (pcE ts[k].1.2.2) := acc_low1 hA1 (by omega)
       rw [show Blk.loop LS.busy _ _ _ _ _ _ _ = BL .busy .none by rw [hBL]]
       generalize MC.set (c1' + 2) (BL .busy .none) = MB at gMB m_y m_p m_c2 hA2 ⊢
       have m_t := (m_p tb (by omega) (by omega)).trans a3
       have m_n := (m_p c1' (by omega) (by omega)).trans a4
       have m_7 := (gMB.old c3 (by omega)).trans z7
       have m_c := (gMB.old c (by omega)).trans z3
       have m_d : ∀ x ∈ (c1' + 1) :: ds, x < c1' + 3 ∧ x ≠ c1' ∧ x ≠ c1' + 2 ∧ MB.get x = some (.defs false) := fun x hx => by
        have hxc : x < c1' + 3 ∧ x ≠ c1' ∧ x ≠ c1' + 2 := by
         rcases List.mem_cons.1 hx with rfl | hx
         · omega
         · have := hds x hx; omega
        exact ⟨hxc.1, hxc.2.1, hxc.2.2, (m_p x (by omega) hxc.2.2).trans (a6 x hx)⟩
       refine bd5 (tb := tb) (kb := c1') (qb := c3) (sb := c) (rb := c + 1) (turn := turn) (lv := lv) Φ h22 (gMB.ok okZ) hkt (by omega) hpll m_c2 m_t m_n m_7 m_c (by omega) (by omega) (by omega) (by omega) (by omega) (Nat.lt_succ_self _) hA2 (zs.grow gMB) ((zpp _ (List.getElem_mem _)).grow gMB) [_, _, _, none, none, none, none, _, none, none, none, none, _, _, _, _, _, _, _, _, _, _, _, _, _, _, _, _, _, _, _, _, _, _, _, _, _, _, _, _, _, _, _, _, _, _, _, _, _, _, _, _, _, _, _, _, _, _, _, _, _, _, _, _, _, _, _, _, _, _, _, _, _, _, _, _, _, _, _, _, _, _, _, _, _, _, _, _, _, _, _, _, _, _, _, _, _, _, _, _, _, _, _, _, _, _, _, _, _, _, _, _, _, _, _, _, _, _, _, _, _, _, _, _, _, _, _] _ ?_
       intro t M' c' hle hold hk' hnew
       have hly : M'.get (c1' + 2) = some (BL .busy .none) := (hold _ (by omega) (by omega)).trans m_y
       rw [hBL] at hly
       have gF : Gr (c3 + 1) Z c' M' := ⟨by have := gMB.le; omega, fun b hb => (hold b (by omega) (by omega)).trans (gMB.old b hb), hnew⟩
       have fin : ∀ s p, Gr (c3 + 1) Z c' (M'.set (c1' + 2) (BL s p)) ∧ c1' + 3 ≤ c' ∧ (M'.set (c1' + 2) (BL s p)).get tb = some (rowB 3 [.i .i64 (turn : Int)]) ∧ (M'.set (c1' + 2) (BL s p)).get c1' = some (rowB 3 [.i .i64 ((k + 1 : Nat) : Int)]) ∧ (M'.set (c1' + 2) (BL s p)).get (c1' + 2) = some (BL s p) ∧ ∀ x ∈ (c1' + 1) :: ds, (M'.set (c1' + 2) (BL s p)).get x = some (.defs false) := by
        intro s p
        refine ⟨gF.set (c1' + 2) _ (by omega) (by omega) (Nat.le_refl _), by omega, ?_, ?_, get_same _ _ _, fun x hx => ?_⟩
        · rw [get_ne _ _ (by omega)]; exact (hold tb (by omega) (by omega)).trans m_t
        · rw [get_ne _ _ (by omega)]; exact hk'
        · obtain ⟨x1, x2, x3, x4⟩ := m_d x hx
          rw [get_ne _ _ x3]; exact (hold x x1 x2).trans x4
       refine ⟨fun hx => ?_, fun hx => ?_⟩
       · refine yq_ext hly ?_
         refine Or.inr ⟨rfl, (hJ _ _).2 ⟨k + 1, ?_⟩⟩
         rw [show Blk.loop LS.done _ _ _ _ _ _ _ = BL .done (.ext 2) by rw [hBL]]
         obtain ⟨f1, f2, f3, f4, f5, f6⟩ := fin .done (.ext 2)
         exact ⟨f1, f2, f3, f4, f5, f6, hx.1, hx.2⟩
       · refine yq_nrm hly ?_
         refine Or.inl ⟨rfl, (hIk _ _ _).2 ?_⟩
         rw [show Blk.loop LS.ready _ _ _ _ _ _ _ = BL .ready .none by rw [hBL]]
         obtain ⟨f1, f2, f3, f4, f5, f6⟩ := fin .ready .none
         exact ⟨f1, f2, f3, f4, f5, f6, hklt⟩
     · intro v' M2 cc hij
       obtain ⟨k, ps, pp, e1, e2, e3, e4, e5, e6, hps, hor⟩ : ∃ (k : Nat) (s' : LS) (p : Pend), Gr (c3 + 1) Z cc M2 ∧ c1' + 3 ≤ cc ∧ M2.get tb = some (rowB 3 [.i .i64 (turn : Int)]) ∧ M2.get c1' = some (rowB 3 [.i .i64 (k : Int)]) ∧ M2.get (c1' + 2) = some (BL s' p) ∧ (∀ x ∈ (c1' + 1) :: ds, M2.get x = some (.defs false)) ∧ s' ≠ .busy ∧ ((p = .none ∧ k = (tk s 0).length) ∨ (p = .ext 2 ∧ turn = 0 ∧ (k : Int) = lv)) := by
        rcases hij with hi | hj
        · obtain ⟨a1, a2, a3, a4, a5, a6, a7⟩ := (hIk _ _ _).1 hi
          exact ⟨_, _, _, a1, a2, a3, a4, a5, a6, (by intro h; cases h), .inl ⟨rfl, rfl⟩⟩
        · obtain ⟨k, a1, a2, a3, a4, a5, a6, a7, a8⟩ := (hJ _ _).1 hj
          exact ⟨k, _, _, a1, a2, a3, a4, a5, a6, (by intro h; cases h), .inr ⟨rfl, a7, a8⟩⟩
       have hl5 := e5
       rw [hBL] at hl5
       refine ⟨_, _, _, _, _, _, _, _, hl5, hps, ?_⟩
       have gX := e1.set (c2 := cc) (c1' + 2) (BL .exhausted pp) (by omega) (by omega) (Nat.le_refl _)
       have x_t : (M2.set (c1' + 2) (BL .exhausted pp)).get tb = some (rowB 3 [.i .i64 (turn : Int)]) := (get_ne _ _ (by omega)).trans e3
       have x_n : (M2.set (c1' + 2) (BL .exhausted pp)).get c1' = some (rowB 3 [.i .i64 (k : Int)]) := (get_ne _ _ (by omega)).trans e4
       have x_d : ∀ x ∈ (c1' + 1) :: ds, (M2.set (c1' + 2) (BL .exhausted pp)).get x = some (.defs false) := fun x hx => by
        have hxc : x ≠ c1' + 2 := by
         rcases List.mem_cons.1 hx with rfl | hx
         · omega
         · have := hds x hx; omega
        rw [get_ne _ _ hxc]; exact e6 x hx
       rw [show Blk.loop LS.exhausted _ _ _ _ _ _ _ = BL .exhausted pp by rw [hBL]]
       generalize M2.set (c1' + 2) (BL .exhausted pp) = MX at gX x_t x_n x_d ⊢
       have x_7 := (gX.old c3 (by omega)).trans z7
       have x_c := (gX.old c (by omega)).trans z3
       have l_t : load1 F MX tb 0 = some (.i .i64 (turn : Int)) := load_row x_t 0
       have l_n : load1 F MX c1' 0 = some (.i .i64 (k : Int)) := load_row x_n 0
       have l_7 : load1 F MX c3 0 = some ws := load_row x_7 0
       have l_c : load1 F MX c 0 = some (.i .i64 lv) := load_row x_c 0
       have n_t : tb ≠ cc := by omega
       have q3 : biV .add (.i .i64 (turn : Int)) (.i .i64 1) = some (.i .i64 ((turn + 1 : Nat) : Int)) := by rw [i64_add _ _ (by omega) (by omega)]; simp
       have hnd2 : ((c1' + 1) :: ds).Nodup := by
        rw [List.nodup_cons]
        exact ⟨fun hx => by have := hds _ hx; omega, hnd⟩
       have fin : ∀ m, m = 2 - (turn + 1) → ∀ (u : List (Option V)) s', s' = St.mk ((.n (.n (.n (.n (uv7 u 63 31 95 15 79 47 111) (uO u 7) (uv7 u 71 39 103 23 87 55 119)) (some (.p c 0)) (.n (uv7 u 67 35 99 19 83 51 115) (uO u 11) (uv7 u 75 43 107 27 91 59 123))) (uO u 1) (.n (.n (uv7 u 65 33 97 17 81 49 113) (uO u 9) (uv7 u 73 41 105 25 89 57 121)) (some (.f 43 [] [.p pb 0])) (.n (uv7 u 69 37 101 21 85 53 117) (uO u 13) (uv7 u 77 45 109 29 93 61 125)))) (uO u 0) (.n (.n (.n (uv7 u 64 32 96 16 80 48 112) (some (.p cc 0)) (uv7 u 72 40 104 24 88 56 120)) (some (.p (c + 1) 0)) (.n (uv7 u 68 36 100 20 84 52 116) (uO u 12) (uv7 u 76 44 108 28 92 60 124))) (uO u 2) (.n (.n (uv7 u 66 34 98 18 82 50 114) (uO u 10) (uv7 u 74 42 106 26 90 58 122)) (some (.p c3 0)) (.n (uv7 u 70 38 102 22 86 54 118) (uO u 14) (uv7 u 78 46 110 30 94 62 126)))))) ((c1' + 1) :: ds) (MX.set cc (rowB 3 [.i .i64 ((turn + 1 : Nat) : Int)])) (cc + 1) → I2 m s' := by
        intro m hm u s' hs
        refine (hI2 _ _).2 ⟨turn + 1, cc, _, cc + 1, (c1' + 1) :: ds, u, hm, by omega, hs, gX.set cc _ (by omega) (Nat.lt_succ_self _) (Nat.le_succ _), by omega, Nat.lt_succ_self _, get_same _ _ _, hnd2, fun x hx => ?_⟩
        have hxc : c3 + 1 ≤ x ∧ x < cc := by
         rcases List.mem_cons.1 hx with rfl | hx
         · omega
         · have := hds x hx; omega
        exact ⟨hxc.1, by omega, by rw [get_ne _ _ (by omega)]; exact x_d x hx⟩
       rcases hor with ⟨rfl, rfl⟩ | ⟨rfl, ht0, hlv⟩
       · by_cases ht0 : turn = 0
         · have d0 : decide ((turn : Int) = 0) = true := decide_eq_true (by omega)
           have d1 : decide ((turn : Int) = 1) = false := decide_eq_false (by omega)
           simp only [WX, Nat.reduceLeDiff, B5, pendEx_none, l_t, l_n, l_7, n1, d0, d1, q3, eq_self, ne_eq, not_true_eq_false]
           exact ⟨_, by omega, fin _ rfl [_, _, _, none, none, none, none, _, none, _, _, _, _, _, _, _, _, _, _, _, _, _, _, _, _, _, _, _, _, _, _, _, _, _, _, _, _, _, _, _, _, _, _, _, _, _, _, _, _, _, _, _, _, _, _, _, _, _, _, _, _, _, _, _, _, _, _, _, _, _, _, _, _, _, _, _, _, _, _, _, _, _, _, _, _, _, _, _, _, _, _, _, _, _, _, _, _, _, _, _, _, _, _, _, _, _, _, _, _, _, _, _, _, _, _, _, _, _, _, _, _, _, _, _, _, _, _] _ rfl⟩
         · have d0 : decide ((turn : Int) = 0) = false := decide_eq_false (by omega)
           have d1 : decide ((turn : Int) = 1) = true := decide_eq_true (by omega)
           simp only [WX, Nat.reduceLeDiff, B5, pendEx_none, l_t, l_n, l_7, n1, d0, d1, q3, eq_self, ne_eq, not_true_eq_false]
           exact ⟨_, by omega, fin _ rfl [_, _, _, none, none, none, none, _, none, _, _, _, _, _, _, _, _, _, _, _, _, _, _, _, _, _, _, _, _, _, _, _, _, _, _, _, _, _, _, _, _, _, _, _, _, _, _, _, _, _, _, _, _, _, _, _, _, _, _, _, _, _, _, _, _, _, _, _, _, _, _, _, _, _, _, _, _, _, _, _, _, _, _, _, _, _, _, _, _, _, _, _, _, _, _, _, _, _, _, _, _, _, _, _, _, _, _, _, _, _, _, _, _, _, _, _, _, _, _, _, _, _, _, _, _, _, _] _ rfl⟩
       · have d0 : decide ((turn : Int) = 0) = true := decide_eq_true (by omega)
         have d1 : decide ((turn : Int) = 1) = false := decide_eq_false (by omega)
         have d2 : decide (¬ ((k : Int) = lv)) = false := decide_eq_false (by omega)
         by_cases hkl : (k : Int) = ((tk s 0).length : Int)
         · have d3 : decide (¬ ((k : Int) = ((tk s 0).length : Int))) = false := decide_eq_false (by omega)
           simp only [WX, Nat.reduceEqDiff, reduceCtorEq, Nat.reduceLeDiff, B5, pendEx_ext, l_t, l_n, l_7, n1, d0, d1, d3, q3, eq_self, ne_eq]
           exact ⟨_, by omega, fin _ rfl [_, _, _, none, none, none, none, _, none, _, _, _, _, _, _, _, _, _, _, _, _, _, _, _, _, _, _, _, _, _, _, _, _, _, _, _, _, _, _, _, _, _, _, _, _, _, _, _, _, _, _, _, _, _, _, _, _, _, _, _, _, _, _, _, _, _, _, _, _, _, _, _, _, _, _, _, _, _, _, _, _, _, _, _, _, _, _, _, _, _, _, _, _, _, _, _, _, _, _, _, _, _, _, _, _, _, _, _, _, _, _, _, _, _, _, _, _, _, _, _, _, _, _, _, _, _, _] _ rfl⟩
         · have d3 : decide (¬ ((k : Int) = ((tk s 0).length : Int))) = true := decide_eq_true hkl
           simp only [WX, Nat.reduceEqDiff, reduceCtorEq, Nat.reduceLeDiff, B5, pendEx_ext, l_t, l_n, l_7, l_c, n1, d0, d1, d2, d3, q3, eq_self, ne_eq]
           exact ⟨_, by omega, fin _ rfl [_, _, _, none, none, none, none, _, none, _, _, _, _, _, _, _, _, _, _, _, _, _, _, _, _, _, _, _, _, _, _, _, _, _, _, _, _, _, _, _, _, _, _, _, _, _, _, _, _, _, _, _, _, _, _, _, _, _, _, _, _, _, _, _, _, _, _, _, _, _, _, _, _, _, _, _, _, _, _, _, _, _, _, _, _, _, _, _, _, _, _, _, _, _, _, _, _, _, _, _, _, _, _, _, _, _, _, _, _, _, _, _, _, _, _, _, _, _, _, _, _, _, _, _, _, _, _] _ rfl⟩
   · have hd2 : decide ((turn : Int) < 2) = false := decide_eq_false (by omega)
     have ok1 := hg.ok okZ
     have m4 := (hg.old (c + 1) (by omega)).trans z4
     have hst4 := store_row m4 0 [.b true] (by simp) rfl
     obtain ⟨M', e, hM'⟩ := takeDefs_all (M := M1.set (c + 1) (rowB 4 [.b true])) hnd (fun x hx => by
      have := hds x hx
      rw [get_ne _ _ (by omega)]; exact this.2.2)
     have hres : load1 F M' (c + 1) 0 = some (.b true) := by
      have : M'.get (c + 1) = some (rowB 4 [.b true]) := by
       rw [hM' (c + 1) (fun hx => by have := hds _ hx; omega)]; exact get_same _ _ _
      exact load_row this 0
     simp only [WX, B5, ldt, hd2, h9, hkn, hst4, endQ_ret1, e, endD_some, hres]
theorem bindS {v w : V} {f : List UInt8 → Option V} (h : (asS v).bind f = some w) : ∃ l, v = sV l ∧ f l = some w := by
 obtain ⟨l, h1, h2⟩ := Option.bind_eq_some_iff.1 h
 exact ⟨l, of_asS h1, h2⟩
theorem bindB {v w : V} {f : UInt8 → Option V} (h : (asB v).bind f = some w) : ∃ b, v = bV b ∧ f b = some w := by
 obtain ⟨l, h1, h2⟩ := Option.bind_eq_some_iff.1 h
 exact ⟨l, of_asB h1, h2⟩
theorem okm_e {ct : Nat} (h : 1000 ≤ ct) : Okm [] (.e : Mem) ct := ⟨fun b _ => rfl, fun b _ => rfl, fun b hb => (by cases hb), h⟩
section
variable {P : Program} (hm : P.follows .mixedOrders = true) {Φ : Nat → Option CF} (hΦ : PhiOk P Φ)
include hm hΦ
theorem o87 (h : Φ 87 = some c87) : OrcOk P 87 (pureO h87) := pure_of hm hΦ (by
 intro args v ct hv hct; unfold h87 at hv; split at hv
 · obtain ⟨l, rfl, hv1⟩ := bindS hv
   obtain ⟨p, rfl, hv2⟩ := bindS hv1
   obtain rfl := Option.some.inj hv2; exact ⟨trivial, t87 Φ h _ _ _⟩
 · cases hv)
theorem o88 (h : Φ 88 = some c88) : OrcOk P 88 (pureO h88) := pure_of hm hΦ (by
 intro args v ct hv hct; unfold h88 at hv; split at hv
 · obtain ⟨l, rfl, hv1⟩ := bindS hv
   obtain ⟨b, rfl, hv2⟩ := bindB hv1
   obtain rfl := Option.some.inj hv2; exact ⟨trivial, t88 Φ h _ _ _⟩
 · cases hv)
theorem o73 (h : Φ 73 = some c73) (h87 : Φ 87 = some (.orc (pureO h87))) : OrcOk P 73 (pureO h73) := pure_of hm hΦ (by
 intro args v ct hv hct; unfold h73 at hv; split at hv
 · obtain ⟨l, rfl, hv1⟩ := bindS hv
   obtain ⟨p, rfl, hv2⟩ := bindS hv1
   obtain rfl := Option.some.inj hv2; exact ⟨trivial, t73 Φ h h87 _ _ _⟩
 · cases hv)
theorem o76 (h : Φ 76 = some c76) (h88' : Φ 88 = some (.orc (pureO h88))) : OrcOk P 76 (pureO h88) := pure_of hm hΦ (by
 intro args v ct hv hct; unfold h88 at hv; split at hv
 · obtain ⟨l, rfl, hv1⟩ := bindS hv
   obtain ⟨b, rfl, hv2⟩ := bindB hv1
   obtain rfl := Option.some.inj hv2; exact ⟨trivial, t76 Φ h h88' _ _ _⟩
 · cases hv)
theorem o75 (h : Φ 75 = some c75) (h76 : Φ 76 = some (.orc (pureO h88))) : OrcOk P 75 (pureO h75) := pure_of hm hΦ (by
 intro args v ct hv hct; unfold h75 at hv; split at hv
 · obtain ⟨b, rfl, hv1⟩ := bindB hv
   obtain rfl := Option.some.inj hv1; exact ⟨trivial, t75 Φ h h76 _ _⟩
 · cases hv)
theorem o78 (h : Φ 78 = some c78) : OrcOk P 78 (pureO h78) := pure_of hm hΦ (by
 intro args v ct hv hct; unfold h78 at hv; split at hv
 · obtain ⟨b, rfl, hv1⟩ := bindB hv
   obtain rfl := Option.some.inj hv1; exact ⟨trivial, t78 Φ h _ _⟩
 · cases hv)
theorem o69 (h : Φ 69 = some c69) : OrcOk P 69 (pureO h78) := pure_of hm hΦ (by
 intro args v ct hv hct; unfold h78 at hv; split at hv
 · obtain ⟨b, rfl, hv1⟩ := bindB hv
   obtain rfl := Option.some.inj hv1; exact ⟨trivial, t69 Φ h _ _⟩
 · cases hv)
theorem o68 (h : Φ 68 = some c68) : OrcOk P 68 (pureO h75) := pure_of hm hΦ (by
 intro args v ct hv hct; unfold h75 at hv; split at hv
 · obtain ⟨b, rfl, hv1⟩ := bindB hv
   obtain rfl := Option.some.inj hv1; exact ⟨trivial, t68 Φ h _ _⟩
 · cases hv)
theorem o77 (h : Φ 77 = some c77) (h78 : Φ 78 = some (.orc (pureO h78))) : OrcOk P 77 (pureO h77) := pure_of hm hΦ (by
 intro args v ct hv hct; unfold h77 at hv; split at hv
 · obtain ⟨l, rfl, hv1⟩ := bindS hv
   split at hv1
   · rename_i hl; obtain rfl := Option.some.inj hv1; exact ⟨trivial, t77 Φ h h78 l hl _⟩
   · cases hv1
 · cases hv)
theorem o55 (h : Φ 55 = some c55) (h73 : Φ 73 = some (.orc (pureO h73))) : OrcOk P 55 (pureO h55) := pure_of hm hΦ (by
 intro args v ct hv hct; unfold h55 at hv; split at hv
 · obtain ⟨l, rfl, hv1⟩ := bindS hv
   obtain rfl := Option.some.inj hv1
   obtain ⟨r, M1, c1, e, rfl, _⟩ := r55 Φ h h73 (okm_e hct) l
   exact ⟨trivial, M1, c1, e⟩
 · cases hv)
theorem o44 (h : Φ 44 = some c44) : OrcOk P 44 (pureO h44) := pure_of hm hΦ (by
 intro args v ct hv hct; unfold h44 at hv; split at hv
 · obtain ⟨l, rfl, hv1⟩ := bindS hv
   split at hv1
   · cases hv1
   · split at hv1
     · rename_i hl; obtain rfl := Option.some.inj hv1; exact ⟨trivial, t44 Φ h _ _ hl _⟩
     · cases hv1
 · cases hv)
end
theorem str_of4 {F : RO} {M : Mem} {c : Nat} {vs : List V} {x : (Ty.str).D} (h : Rp F M c .str vs x) : ∃ s : List UInt8, vs = [sV s] := by
 have key : ∀ l : List UInt8, vs = [sV l] ∧ l.length ≤ Go.maxLen → ∃ s : List UInt8, vs = [sV s] := fun l h => ⟨l, h.1⟩
 exact key x h
end
end Go.Proofs.YtmbpllipombieaaDoor.Ev
