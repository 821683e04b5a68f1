/- What is put in is found, whatever others do: the law ModelKeeps, walked. -/
import Derived.Test.YtkkneaefjahihaaZKeepP3
import Derived.Test.YtkkneaefjahihaaZModLd
set_option linter.unusedVariables false
set_option linter.unusedSimpArgs false
namespace Go.Proofs.Ytkkneaefjahihaa.Keep
open Go Go.RowKit Go.Proofs.YtkkneaefjahihaaW.PrintWords Go.Proofs.YtkkneaefjahihaaW.PrintLast Go.Proofs.YtkkneaefjahihaaW.PrintMore Go.Proofs.Ytkkneaefjahihaa.PModelTold Go.Proofs.Ytkkneaefjahihaa.GRow Go.Proofs.Ytkkneaefjahihaa.ModRec Go.Proofs.Ytkkneaefjahihaa.Num Go.Proofs.Ytkkneaefjahihaa.Bxs Go.Proofs.Ytkkneaefjahihaa.ModW Go.Proofs.Ytkkneaefjahihaa.ModR Go.Proofs.Ytkkneaefjahihaa.Pure Go.Proofs.Ytkkneaefjahihaa.ModL
def okm (w : World) (b9 k : Nat) : Prop := w.heap.size ≤ k ∧ k ≠ b9
/-- What the walk holds. -/
structure KS (w X : World) (b9 : Nat) (L : List Box) (A0 : Option Addr) (c0 : Nat) (A1 : Option Addr) (c1 : Nat) (l : List S49) (ts : List S62) : Prop where
  bx : Bxs w X (((b9, #[.slice A0 l.length c0, .slice A1 ts.length c1], 27) :: L) : List Box)
  v0 : Kd.V k49 49 X 0 (okm w b9) (.slice A0 l.length c0) l
  v1 : Kd.V k62 62 X 0 (okm w b9) (.slice A1 ts.length c1) ts
theorem KS.below {w X X' : World} {b9 : Nat} {L : List Box} {A0 A1 : Option Addr} {c0 c1 : Nat} {l : List S49} {ts : List S62} (h : KS w X b9 L A0 c0 A1 c1 l ts) (hb : Below X.heap.size X X') : KS w X' b9 L A0 c0 A1 c1 l ts := ⟨h.bx.below hb, Kd.V_below h.v0 hb, Kd.V_below h.v1 hb⟩
theorem okmd {w : World} {b9 N k : Nat} (h : b9 < N ∧ w.heap.size ≤ N) (hk : (okm w b9 k ∨ okm w b9 k) ∨ N ≤ k) : okm w b9 k := by
  rcases hk with (hk | hk) | hk
  · exact hk
  · exact hk
  · exact ⟨by omega, by omega⟩
theorem KS.put {w X : World} {b9 : Nat} {L : List Box} {A0 A1 A8 A9 : Option Addr} {c0 c1 c8 c9 N : Nat} {l g1 : List S49} {ts g2 : List S62} (h : Bxs w X (((b9, #[.slice A0 l.length c0, .slice A1 ts.length c1], 27) :: L) : List Box)) (hN : b9 < N ∧ w.heap.size ≤ N) {base base' : Nat} (V0 : Kd.V k49 49 X base (fun k => (okm w b9 k ∨ okm w b9 k) ∨ N ≤ k) (.slice A8 g1.length c8) g1) (V1 : Kd.V k62 62 X base' (fun k => (okm w b9 k ∨ okm w b9 k) ∨ N ≤ k) (.slice A9 g2.length c9) g2) :
    KS w ((X.setCell ⟨b9, 0, none⟩ (.slice A8 g1.length c8)).setCell ⟨b9, 1, none⟩ (.slice A9 g2.length c9)) b9 L A8 c8 A9 c9 g1 g2 :=
  have V0' : Kd.V k49 49 X 0 (okm w b9) (.slice A8 g1.length c8) g1 := Kd.V_mono (rb V0) (fun k hk => okmd hN hk)
  have V1' : Kd.V k62 62 X 0 (okm w b9) (.slice A9 g2.length c9) g2 := Kd.V_mono (rb V1) (fun k hk => okmd hN hk)
  ⟨(h.set 0 0 _ rfl rfl).set 0 1 _ rfl rfl, Kd.V_far (Kd.V_far V0' (fun k hk => hk.2) _) (fun k hk => hk.2) _, Kd.V_far (Kd.V_far V1' (fun k hk => hk.2) _) (fun k hk => hk.2) _⟩
theorem far5 {α : Type} {d : Kd α} {e : Nat} {W : World} {ok : Nat → Prop} {v : Value} {xs : List α} {g : Nat} {y0 y1 y2 y3 y4 : Value} (h : Kd.V d e W 0 (fun k => ok k ∧ k ≠ g) v xs) : Kd.V d e (((((W.setCell ⟨g, 0, none⟩ y0).setCell ⟨g, 1, none⟩ y1).setCell ⟨g, 2, none⟩ y2).setCell ⟨g, 3, none⟩ y3).setCell ⟨g, 4, none⟩ y4) 0 ok v xs :=
  Kd.V_mono (Kd.V_far (Kd.V_far (Kd.V_far (Kd.V_far (Kd.V_far h (fun k hk => hk.2) _) (fun k hk => hk.2) _) (fun k hk => hk.2) _) (fun k hk => hk.2) _) (fun k hk => hk.2) _) (fun k hk => hk.1)
theorem KS.putA {w X : World} {b9 : Nat} {L : List Box} {A0 A1 A8 A9 : Option Addr} {c0 c1 c8 c9 N : Nat} {l g1 g7 : List S49} {ts g2 : List S62} {v6 y0 y1 y2 y3 y4 : Value} (h : Bxs w X (((b9, #[.slice A0 l.length c0, .slice A1 ts.length c1], 27) :: L) : List Box)) (hN : b9 < N ∧ w.heap.size ≤ N) {base base' base6 : Nat} (V0 : Kd.V k49 49 X base (fun k => (okm w b9 k ∨ okm w b9 k) ∨ N ≤ k) (.slice A8 g1.length c8) g1) (V1 : Kd.V k62 62 X base' (fun k => (okm w b9 k ∨ okm w b9 k) ∨ N ≤ k) (.slice A9 g2.length c9) g2) (V6 : Kd.V k49 49 X base6 (fun k => N ≤ k) v6 g7) {Y : World} (hY : Y = (((((((X.alloc (.cells #[.int .i64 0, .int .i64 0, .int .i64 0, .int .i64 0, .slice none 0 0] 34 (0, 0))).setCell ⟨b9, 0, none⟩ (.slice A8 g1.length c8)).setCell ⟨b9, 1, none⟩ (.slice A9 g2.length c9)).setCell ⟨X.heap.size, 0, none⟩ y0).setCell ⟨X.heap.size, 1, none⟩ y1).setCell ⟨X.heap.size, 2, none⟩ y2).setCell ⟨X.heap.size, 3, none⟩ y3).setCell ⟨X.heap.size, 4, none⟩ y4) :
    KS w Y b9 ((X.heap.size, #[y0, y1, y2, y3, y4], 34) :: L) A8 c8 A9 c9 g1 g2 ∧ Kd.V k49 49 Y 0 (okm w b9) v6 g7 := by
  subst hY
  have hb9 := h.lt 0 rfl
  have V0' : Kd.V k49 49 X 0 (fun k => (okm w b9 k ∧ k ≠ X.heap.size) ∧ k ≠ b9) (.slice A8 g1.length c8) g1 := Kd.V_mono (rb (Kd.V_bound V0)) (fun k hk => ⟨⟨okmd hN hk.1, by have := hk.2; omega⟩, (okmd hN hk.1).2⟩)
  have V1' : Kd.V k62 62 X 0 (fun k => (okm w b9 k ∧ k ≠ X.heap.size) ∧ k ≠ b9) (.slice A9 g2.length c9) g2 := Kd.V_mono (rb (Kd.V_bound V1)) (fun k hk => ⟨⟨okmd hN hk.1, by have := hk.2; omega⟩, (okmd hN hk.1).2⟩)
  have V6' : Kd.V k49 49 X 0 (fun k => (okm w b9 k ∧ k ≠ X.heap.size) ∧ k ≠ b9) v6 g7 := Kd.V_mono (rb (Kd.V_bound V6)) (fun k hk => ⟨⟨okmd hN (.inr hk.1), by have := hk.2; omega⟩, (okmd hN (.inr hk.1)).2⟩)
  have M := (((((((h.box #[.int .i64 0, .int .i64 0, .int .i64 0, .int .i64 0, .slice none 0 0] 34 rfl).set 1 0 (.slice A8 g1.length c8) rfl rfl).set 1 1 (.slice A9 g2.length c9) rfl rfl).set 0 0 y0 rfl rfl).set 0 1 y1 rfl rfl).set 0 2 y2 rfl rfl).set 0 3 y3 rfl rfl).set 0 4 y4 rfl rfl
  refine ⟨⟨M.perm (List.Perm.swap _ _ _), far5 (Kd.V_mono (Kd.V_far (Kd.V_far (Kd.V_alloc V0' _) (fun k hk => hk.2) _) (fun k hk => hk.2) _) (fun k hk => hk.1)), far5 (Kd.V_mono (Kd.V_far (Kd.V_far (Kd.V_alloc V1' _) (fun k hk => hk.2) _) (fun k hk => hk.2) _) (fun k hk => hk.1))⟩, far5 (Kd.V_mono (Kd.V_far (Kd.V_far (Kd.V_alloc V6' _) (fun k hk => hk.2) _) (fun k hk => hk.2) _) (fun k hk => hk.1))⟩
/-- What follows the first n statements. -/
def tl : Nat → Code → Code
  | 0, c => c
  | n + 1, .seq _ b => tl n b
  | _ + 1, c => c
def bodyC (f : Func) : Code := f.body.getD .skip
theorem same_self (k1 k2 : Int) : call_Same.f 1000001 1 k1 k2 0 ([] : List S49) 1 k1 k2 0 ([] : List S49) = some true := by
  rw [csame_eq 1 k1 k2 0 1 k1 k2 0 ([] : List S49) [] (Nat.zero_le _) (Nat.zero_lt_succ _), decide_eq_true (⟨rfl, rfl, rfl, rfl⟩ : (1 : Int) = 1 ∧ k1 = k1 ∧ k2 = k2 ∧ (0 : Int) = 0)]
  rfl
theorem cn {α : Type} (d : Kd α) (w : World) (A : Option Addr) : d.C w A ([] : List α).length [] := ⟨rfl, by simp, fun h => absurd h (Nat.lt_irrefl 0)⟩
/-- The same, and the list that was told. -/
structure KF (w X : World) (b9 : Nat) (L : List Box) (A0 : Option Addr) (c0 : Nat) (A1 : Option Addr) (c1 : Nat) (l : List S49) (ts : List S62) (A6 : Option Addr) (c6 : Nat) (F : List S49) : Prop where
  ks : KS w X b9 L A0 c0 A1 c1 l ts
  vf : Kd.V k49 49 X 0 (okm w b9) (.slice A6 F.length c6) F
theorem KF.ofA {w X : World} {b9 : Nat} {L : List Box} {A0 A1 A6 : Option Addr} {c0 c1 c6 : Nat} {l F : List S49} {ts : List S62} (h : KS w X b9 L A0 c0 A1 c1 l ts ∧ Kd.V k49 49 X 0 (okm w b9) (.slice A6 F.length c6) F) : KF w X b9 L A0 c0 A1 c1 l ts A6 c6 F := ⟨h.1, h.2⟩
theorem KF.put {w X : World} {b9 : Nat} {L : List Box} {A0 A1 A8 A9 A6 : Option Addr} {c0 c1 c8 c9 c6 N : Nat} {l g1 F : List S49} {ts g2 : List S62} (h : Bxs w X (((b9, #[.slice A0 l.length c0, .slice A1 ts.length c1], 27) :: L) : List Box)) (hN : b9 < N ∧ w.heap.size ≤ N) {base base' : Nat} (V0 : Kd.V k49 49 X base (fun k => (okm w b9 k ∨ okm w b9 k) ∨ N ≤ k) (.slice A8 g1.length c8) g1) (V1 : Kd.V k62 62 X base' (fun k => (okm w b9 k ∨ okm w b9 k) ∨ N ≤ k) (.slice A9 g2.length c9) g2) (VF : Kd.V k49 49 X 0 (okm w b9) (.slice A6 F.length c6) F) :
    KF w ((X.setCell ⟨b9, 0, none⟩ (.slice A8 g1.length c8)).setCell ⟨b9, 1, none⟩ (.slice A9 g2.length c9)) b9 L A8 c8 A9 c9 g1 g2 A6 c6 F :=
  ⟨KS.put h hN V0 V1, Kd.V_far (Kd.V_far VF (fun k hk => hk.2) _) (fun k hk => hk.2) _⟩
theorem KF.below {w X X' : World} {b9 : Nat} {L : List Box} {A0 A1 A6 : Option Addr} {c0 c1 c6 : Nat} {l F : List S49} {ts : List S62} (h : KF w X b9 L A0 c0 A1 c1 l ts A6 c6 F) (hb : Below X.heap.size X X') : KF w X' b9 L A0 c0 A1 c1 l ts A6 c6 F := ⟨h.ks.below hb, Kd.V_below h.vf hb⟩
/-- Two new boxes: a state, an answer. -/
theorem KF.two {w X : World} {b9 : Nat} {L : List Box} {A0 A1 A8 A9 A6 : Option Addr} {c0 c1 c8 c9 c6 N : Nat} {l g1 F : List S49} {ts g2 : List S62} {y0 y1 y2 y3 y4 : Value} (h : KF w X b9 L A0 c0 A1 c1 l ts A6 c6 F) (hN : b9 < N ∧ w.heap.size ≤ N) {base base' : Nat} (V0 : Kd.V k49 49 X base (fun k => (okm w b9 k ∨ okm w b9 k) ∨ N ≤ k) (.slice A8 g1.length c8) g1) (V1 : Kd.V k62 62 X base' (fun k => (okm w b9 k ∨ okm w b9 k) ∨ N ≤ k) (.slice A9 g2.length c9) g2) {Y : World} (hY : Y = (X.alloc (.cells #[.slice A8 g1.length c8, .slice A9 g2.length c9] 27 (0, 0))).alloc (.cells #[y0, y1, y2, y3, y4] 34 (0, 0))) :
    KF w Y b9 ((X.heap.size + 1, #[y0, y1, y2, y3, y4], 34) :: (X.heap.size, #[.slice A8 g1.length c8, .slice A9 g2.length c9], 27) :: L) A0 c0 A1 c1 l ts A6 c6 F ∧ Kd.V k49 49 Y 0 (okm w b9) (.slice A8 g1.length c8) g1 ∧ Kd.V k62 62 Y 0 (okm w b9) (.slice A9 g2.length c9) g2 := by
  subst hY
  have B := h.ks.bx
  have M := (B.box #[.slice A8 g1.length c8, .slice A9 g2.length c9] 27 rfl).box #[y0, y1, y2, y3, y4] 34 (n := X.heap.size + 1) (by simp)
  exact ⟨⟨⟨M.perm ((List.Perm.swap _ _ _).trans ((List.Perm.swap _ _ _).cons _)), rb (Kd.V_alloc (Kd.V_alloc h.ks.v0 _) _), rb (Kd.V_alloc (Kd.V_alloc h.ks.v1 _) _)⟩, rb (Kd.V_alloc (Kd.V_alloc h.vf _) _)⟩, Kd.V_mono (rb (Kd.V_alloc (Kd.V_alloc V0 _) _)) (fun k hk => okmd hN hk), Kd.V_mono (rb (Kd.V_alloc (Kd.V_alloc V1 _) _)) (fun k hk => okmd hN hk)⟩
theorem KF.putC {w X : World} {b9 : Nat} {L : List Box} {A0 A1 A8 A9 A6 : Option Addr} {c0 c1 c8 c9 c6 : Nat} {l g1 F : List S49} {ts g2 : List S62} (h : KF w X b9 L A0 c0 A1 c1 l ts A6 c6 F ∧ Kd.V k49 49 X 0 (okm w b9) (.slice A8 g1.length c8) g1 ∧ Kd.V k62 62 X 0 (okm w b9) (.slice A9 g2.length c9) g2) :
    KF w ((X.setCell ⟨b9, 0, none⟩ (.slice A8 g1.length c8)).setCell ⟨b9, 1, none⟩ (.slice A9 g2.length c9)) b9 L A8 c8 A9 c9 g1 g2 A6 c6 F :=
  ⟨⟨(h.1.ks.bx.set 0 0 _ rfl rfl).set 0 1 _ rfl rfl, Kd.V_far (Kd.V_far h.2.1 (fun k hk => hk.2) _) (fun k hk => hk.2) _, Kd.V_far (Kd.V_far h.2.2 (fun k hk => hk.2) _) (fun k hk => hk.2) _⟩, Kd.V_far (Kd.V_far h.1.vf (fun k hk => hk.2) _) (fun k hk => hk.2) _⟩
theorem KF.sub {w X : World} {b9 : Nat} {L L' : List Box} {A0 A1 A6 : Option Addr} {c0 c1 c6 : Nat} {l F : List S49} {ts : List S62} (h : KF w X b9 L A0 c0 A1 c1 l ts A6 c6 F) (hs : L'.Sublist L) : KF w X b9 L' A0 c0 A1 c1 l ts A6 c6 F := ⟨⟨h.ks.bx.sub (hs.cons_cons _), h.ks.v0, h.ks.v1⟩, h.vf⟩
theorem KF.drew {w X : World} {b9 : Nat} {L : List Box} {A0 A1 A6 : Option Addr} {c0 c1 c6 : Nat} {l F : List S49} {ts : List S62} (h : KF w X b9 L A0 c0 A1 c1 l ts A6 c6 F) : KF w X.drew b9 L A0 c0 A1 c1 l ts A6 c6 F := h.below (below_drew1 (Below.refl _ _))
theorem start_len (n : Int) : (List.replicate (sizeN n) z62).length = sizeN n := List.length_replicate
set_option maxHeartbeats 8000000 in
set_option maxRecDepth 100000 in
theorem t17 {l0 : List S40} {Aa : Option Addr} {ca : Nat} {l1 : List S40} {Ab : Option Addr} {cb : Nat} {key val : Int} {w : World} (hc0 : l0.length ≤ ca) (hc1 : l1.length ≤ cb) (HR0 : Aside0 (Kd.C k40 w Aa l0.length l0)) (HR1 : Aside0 (Kd.C k40 w Ab l1.length l1)) (hl0 : l0.length ≤ 60) (hl1 : l1.length ≤ 60) {b5 b9 : Nat} {A0 : Option Addr} {c0 : Nat} {A1 : Option Addr} {c1 : Nat} {k0 k1 k2 i0 : Int} {b11 : Nat} {A11 : Option Addr} {c11 : Nat} {b12 : Nat} {A12 : Option Addr} {c12 : Nat} {b13 : Nat} {A13 : Option Addr} {c13 : Nat} {b14 : Nat} {A14 : Option Addr} {c14 : Nat} {b16 : Nat} {A16 : Option Addr} {c16 : Nat} {B8 B9 : Option Addr} {d8 d9 : Nat} {l8 : List S49} {t9_ : List S62} {l F : List S49} {ts : List S62} {bv : Int} {wq : World} (LX : Aside0 (KF w wq b9 ((b16 + 1, #[.int .i64 1, .int .i64 key, .int .i64 bv, .int .i64 0, .slice A16 0 c16], 34) :: (b16, #[.slice B8 l8.length d8, .slice B9 t9_.length d9], 27) :: (b14, #[.int .i64 3, .int .i64 0, .int .i64 0, .int .i64 0, .slice A14 F.length c14], 34) :: (b13, #[.int .i64 1, .int .i64 key, .int .i64 bv, .int .i64 0, .slice A13 0 c13], 34) :: (b12, #[.int .i64 i0, .int .i64 0, .int .i64 0, .int .i64 0, .slice A12 0 c12], 34) :: (b11, #[.int .i64 k0, .int .i64 k1, .int .i64 k2, .int .i64 0, .slice A11 0 c11], 34) :: [(b5, #[.int .i64 key, .int .i64 val], 47)]) A0 c0 A1 c1 l ts A14 c14 F)) (WF : Aside0 (WfS (l0.length + 7 + l1.length) l ts)) (RR : Aside0 (R0 ts ⟨true, true, F, 0⟩)) (PF : Aside0 (F.length ≤ l0.length + 1)) {m3 m4 m10 m15 m16 m18 m19 m20 m21 m22 m23 m24 m25 m26 m27 m28 m29 m30 m31 m32 m33 m34 m35 m36 m37 m38 m39 m40 m41 m42 m43 m44 m45 m46 m47 m48 m49 m50 m51 m52 m53 m54 m55 m56 m57 m58 m59 m60 m61 m62 m63 m64 m65 m66 m67 m68 m69 m70 m71 m72 m73 m74 m75 m76 m77 m78 m79 m80 m81 m82 m83 m84 m85 m86 m87 m88 m89 m90 m91 m92 m93 m94 m95 m96 m97 m98 m99 m100 m101 m102 m103 m104 m105 m106 m107 m108 m109 m110 m111 m112 m113 m114 m115 m116 m117 m118 m119 m120 m121 m122 m123 m124 m125 m126 m127 m128 m129 m130 m131 m132 m133 m134 m135 m136 m137 m138 m139 m140 m141 m142 m143 m144 m145 m146 m147 m148 m149 m150 m151 m152 m153 m154 m155 m156 m157 m158 m159 m160 m161 m162 m163 m164 m165 m166 m167 m168 m169 m170 m171 m172 m173 m174 m175 m176 m177 m178 m179 m180 m181 m182 m183 m184 m185 m186 m187 m188 m189 m190 m191 m192 m193 m194 m195 m196 m197 m198 m199 m200 m201 m202 m203 m204 m205 m206 m207 m208 m209 m210 m211 m212 m213 m214 m215 m216 m217 m218 m219 m220 m221 m222 m223 m224 m225 m226 m227 m228 m229 m230 m231 m232 m233 m234 m235 m236 m237 m238 m239 m240 m241 m242 m243 m244 m245 m246 m247 : Value} :
    Code.wp Try.prog (tl 17 (bodyC Try.f4)) (bodyPost Try.prog Try.f4 fun e w' => e = .returned (.bool true) ∧ Below w.heap.size w w') { tmps := List.toArray (.slice Aa l0.length ca :: .slice Ab l1.length cb :: .agg #[.int .i64 key, .int .i64 val] :: m3 :: m4 :: .pointer (some ⟨b5, 0, none⟩) :: .bool false :: .int .i64 key :: .int .i64 val :: .pointer (some ⟨b9, 0, none⟩) :: m10 :: .pointer (some ⟨b11, 0, none⟩) :: .pointer (some ⟨b12, 0, none⟩) :: .pointer (some ⟨b13, 0, none⟩) :: .pointer (some ⟨b14, 0, none⟩) :: m15 :: m16 :: .pointer (some ⟨b16 + 1, 0, none⟩) :: m18 :: m19 :: m20 :: m21 :: m22 :: m23 :: m24 :: m25 :: m26 :: m27 :: m28 :: m29 :: m30 :: m31 :: m32 :: m33 :: m34 :: m35 :: m36 :: m37 :: m38 :: m39 :: m40 :: m41 :: m42 :: m43 :: m44 :: m45 :: m46 :: m47 :: m48 :: m49 :: m50 :: m51 :: m52 :: m53 :: m54 :: m55 :: m56 :: m57 :: m58 :: m59 :: m60 :: m61 :: m62 :: m63 :: m64 :: m65 :: m66 :: m67 :: m68 :: m69 :: m70 :: m71 :: m72 :: m73 :: m74 :: m75 :: m76 :: m77 :: m78 :: m79 :: m80 :: m81 :: m82 :: m83 :: m84 :: m85 :: m86 :: m87 :: m88 :: m89 :: m90 :: m91 :: m92 :: m93 :: m94 :: m95 :: m96 :: m97 :: m98 :: m99 :: m100 :: m101 :: m102 :: m103 :: m104 :: m105 :: m106 :: m107 :: m108 :: m109 :: m110 :: m111 :: m112 :: m113 :: m114 :: m115 :: m116 :: m117 :: m118 :: m119 :: m120 :: m121 :: m122 :: m123 :: m124 :: m125 :: m126 :: m127 :: m128 :: m129 :: m130 :: m131 :: m132 :: m133 :: m134 :: m135 :: m136 :: m137 :: m138 :: m139 :: m140 :: m141 :: m142 :: m143 :: m144 :: m145 :: m146 :: m147 :: m148 :: m149 :: m150 :: m151 :: m152 :: m153 :: m154 :: m155 :: m156 :: m157 :: m158 :: m159 :: m160 :: m161 :: m162 :: m163 :: m164 :: m165 :: m166 :: m167 :: m168 :: m169 :: m170 :: m171 :: m172 :: m173 :: m174 :: m175 :: m176 :: m177 :: m178 :: m179 :: m180 :: m181 :: m182 :: m183 :: m184 :: m185 :: m186 :: m187 :: m188 :: m189 :: m190 :: m191 :: m192 :: m193 :: m194 :: m195 :: m196 :: m197 :: m198 :: m199 :: m200 :: m201 :: m202 :: m203 :: m204 :: m205 :: m206 :: m207 :: m208 :: m209 :: m210 :: m211 :: m212 :: m213 :: m214 :: m215 :: m216 :: m217 :: m218 :: m219 :: m220 :: m221 :: m222 :: m223 :: m224 :: m225 :: m226 :: m227 :: m228 :: m229 :: m230 :: m231 :: m232 :: m233 :: m234 :: m235 :: m236 :: m237 :: m238 :: m239 :: m240 :: m241 :: m242 :: m243 :: m244 :: m245 :: m246 :: m247 :: []), defers := [] } wq := by
  have hu27 := Try.underlying27
  have hu38 := Try.underlying38
  have hu34 := Try.underlying34
  have hu47 := Try.underlying47
  have hu40 := Try.underlying40
  conv => arg 2; whnf
  go_upto_region 28 with (fail)
  rename_i KK hKK K2 hK2
  have HKK := Aside0.mk hKK
  clear hKK
  go_wp2
  go_loopg [18] F.length (fun kx s18 wr => ∃ (i : Nat) (A0 : Option Addr) (c0 : Nat) (A1 : Option Addr) (c1 : Nat) (ts : List S62), s18 = .int .i64 i ∧ i + kx = F.length ∧ Aside0 (KF w wr b9 ((b16 + 1, #[.int .i64 1, .int .i64 key, .int .i64 bv, .int .i64 0, .slice A16 0 c16], 34) :: (b16, #[.slice B8 l8.length d8, .slice B9 t9_.length d9], 27) :: (b14, #[.int .i64 3, .int .i64 0, .int .i64 0, .int .i64 0, .slice A14 F.length c14], 34) :: (b13, #[.int .i64 1, .int .i64 key, .int .i64 bv, .int .i64 0, .slice A13 0 c13], 34) :: (b12, #[.int .i64 i0, .int .i64 0, .int .i64 0, .int .i64 0, .slice A12 0 c12], 34) :: (b11, #[.int .i64 k0, .int .i64 k1, .int .i64 k2, .int .i64 0, .slice A11 0 c11], 34) :: [(b5, #[.int .i64 key, .int .i64 val], 47)]) A0 c0 A1 c1 l ts A14 c14 F) ∧ Aside0 (WfS (127 + i) l ts) ∧ Aside0 (R0 ts ⟨true, true, F, (i : Int)⟩))
  case atStart => exact ⟨0, A0, c0, A1, c1, ts, rfl, by omega, LX, Aside0.mk (wfS_mono WF.out (by omega)), RR⟩
  case round =>
    clear LX WF RR
    have hF := PF.out
    obtain ⟨i, A0, c0, A1, c1, ts, rfl, hi_, LX, WF, RR⟩ := hrel
    have dq : decide ((i : Int) ≤ (F.length : Int)) = true := decide_eq_true (by omega)
    have LB := LX.out.ks.bx
    have y4 := (LB.cell 3 4 rfl).trans rfl
    clear LB
    go_upto_region 31 with (fail)
    have LB := LX.out.ks.bx
    have s0 := (LB.cell 0 0 rfl).trans rfl
    have s1 := (LB.cell 0 1 rfl).trans rfl
    have Z9 := Aside0.mk (show b9 < wr.heap.size ∧ w.heap.size ≤ wr.heap.size from ⟨LB.lt 0 rfl, LB.b.size⟩)
    clear LB
    have hd := (do_eq WF.out (by omega) 0 10 0 0 0 0).trans (congrArg some (do_next RR.out))
    have W2 := do_wf WF.out (by omega) 0 10 0 0 0 0
    rw [do_next RR.out] at W2
    simp only at W2
    clear y4
    by_cases hi : i < F.length
    · clear HKK
      rw [if_pos hi, show foundA F (i : Int) = (1, (rd_T49 F (i : Int)).f0, (rd_T49 F (i : Int)).f1, 0, []) by unfold foundA; rw [if_pos (by omega)]] at hd
      rw [if_pos hi] at W2
      obtain ⟨rd, hrd⟩ : ∃ r, rd_T49 F (i : Int) = r := ⟨_, rfl⟩
      rw [hrd] at hd
      have HRD := Aside0.mk hrd
      have R2 := Aside0.mk (rd_set0 ts RR.out.len ⟨true, true, F, (i : Int) + 1⟩)
      clear hrd
      have DD := Aside0.mk hd
      have W3 := Aside0.mk W2
      clear hd W2
      generalize ts.set (0 : Int).toNat ⟨true, true, F, (i : Int) + 1⟩ = ts2 at DD W3 R2
      go_wp2_with fail
      refine (mdo_calls 5000 (okm w b9) _ _ _ (okm w b9) _ _ _ _ _ _ _ _ _ _ _ _ _ _ _ _ _ (rb LX.out.ks.v0) (rb LX.out.ks.v1) DD.out).mono ?_
      rintro e w5 ⟨v0, v1, v6, rfl, V0, V1, V6, hb⟩
      obtain ⟨A8, c8, rfl⟩ := Kd.V_slice V0
      obtain ⟨A9, c9, rfl⟩ := Kd.V_slice V1
      obtain ⟨A19, c19, rfl⟩ := Kd.V_slice V6
      have X5 := Aside0.mk (LX.out.ks.bx.below hb)
      have TW := Aside0.mk (LX.out.below hb)
      have U0 := Aside0.mk V0
      have U1 := Aside0.mk V1
      clear V0 V1 V6 hb s0 s1 LX
      go_upto_region 32 with (fail)
      refine gen2 (Φ := fun X => KF w X b9 ((w5.heap.size + 1, #[.int .i64 1, .int .i64 rd.f0, .int .i64 rd.f1, .int .i64 0, .slice A19 0 c19], 34) :: (w5.heap.size, #[.slice A8 l.length c8, .slice A9 (ts2).length c9], 27) :: (b16 + 1, #[.int .i64 1, .int .i64 key, .int .i64 bv, .int .i64 0, .slice A16 0 c16], 34) :: (b16, #[.slice B8 l8.length d8, .slice B9 t9_.length d9], 27) :: (b14, #[.int .i64 3, .int .i64 0, .int .i64 0, .int .i64 0, .slice A14 F.length c14], 34) :: (b13, #[.int .i64 1, .int .i64 key, .int .i64 bv, .int .i64 0, .slice A13 0 c13], 34) :: (b12, #[.int .i64 i0, .int .i64 0, .int .i64 0, .int .i64 0, .slice A12 0 c12], 34) :: (b11, #[.int .i64 k0, .int .i64 k1, .int .i64 k2, .int .i64 0, .slice A11 0 c11], 34) :: [(b5, #[.int .i64 key, .int .i64 val], 47)]) A0 c0 A1 c1 l ts A14 c14 F ∧ Kd.V k49 49 X 0 (okm w b9) (.slice A8 l.length c8) l ∧ Kd.V k62 62 X 0 (okm w b9) (.slice A9 (ts2).length c9) (ts2)) (KF.two TW.out Z9.out U0.out U1.out rfl) ?_
      intro x31 HX
      have LX := Aside0.mk HX
      obtain ⟨b19, hnb⟩ : ∃ b, w5.heap.size = b := ⟨_, rfl⟩
      rw [hnb] at LX ⊢
      clear HX X5 TW Z9 U0 U1 hnb
      have LB := LX.out.1.ks.bx
      have s0 := (LB.cell 2 0 rfl).trans rfl
      have s1 := (LB.cell 2 1 rfl).trans rfl
      have z0 := (LB.cell 0 0 rfl).trans rfl
      have z1 := (LB.cell 0 1 rfl).trans rfl
      have zf0 := LB.frz 0 0 rfl
      have zf1 := LB.frz 0 1 rfl
      clear LB
      go_upto_region 33 with (fail)
      refine gen2 (Φ := fun X => KF w X b9 ((b19 + 1, #[.int .i64 1, .int .i64 rd.f0, .int .i64 rd.f1, .int .i64 0, .slice A19 0 c19], 34) :: (b19, #[.slice A8 l.length c8, .slice A9 ts2.length c9], 27) :: (b16 + 1, #[.int .i64 1, .int .i64 key, .int .i64 bv, .int .i64 0, .slice A16 0 c16], 34) :: (b16, #[.slice B8 l8.length d8, .slice B9 t9_.length d9], 27) :: (b14, #[.int .i64 3, .int .i64 0, .int .i64 0, .int .i64 0, .slice A14 F.length c14], 34) :: (b13, #[.int .i64 1, .int .i64 key, .int .i64 bv, .int .i64 0, .slice A13 0 c13], 34) :: (b12, #[.int .i64 i0, .int .i64 0, .int .i64 0, .int .i64 0, .slice A12 0 c12], 34) :: (b11, #[.int .i64 k0, .int .i64 k1, .int .i64 k2, .int .i64 0, .slice A11 0 c11], 34) :: [(b5, #[.int .i64 key, .int .i64 val], 47)]) A8 c8 A9 c9 l ts2 A14 c14 F) (KF.putC LX.out) ?_
      intro x33 HX
      replace LX := Aside0.mk HX
      clear HX s0 s1 z0 z1 zf0 zf1
      have LB := LX.out.ks.bx
      have y4 := (LB.cell 5 4 rfl).trans rfl
      have de : ((i : Int) == (F.length : Int)) = false := by rw [beq_eq_false_iff_ne]; omega
      go_upto_region 35 with (fail)
      have s0 := (LB.cell 1 0 rfl).trans rfl
      have s1 := (LB.cell 1 1 rfl).trans rfl
      have s2 := (LB.cell 1 2 rfl).trans rfl
      clear LB
      obtain ⟨ad, e14, p0, p1⟩ := at_T49 (Kd.V_reads' LX.out.vf).2.2 (i : Int) (by omega) (by omega)
      rw [HRD.out] at p0 p1
      subst e14
      rw [Int.toNat_natCast] at p0 p1
      have n0 : (rd.f0 != rd.f0) = false := bne_self_eq_false _
      have n1 : (rd.f1 != rd.f1) = false := bne_self_eq_false _
      go_region
      have LZ := Aside0.mk ((LX.out.drew).sub (List.sublist_append_right [_, _] _))
      clear LX s0 s1 s2 p0 p1 y4
      go_wp2
      go_roundg (F.length - (i + 1))
      all_goals try (exact (show F.length - (i + 1) < _ by omega))
      exact ⟨i + 1, A8, c8, A9, c9, ts2, by go_num, by omega, LZ, W3, R2⟩
    · clear HKK
      rw [if_neg hi, show foundA F (i : Int) = (4, 0, 0, 0, []) by unfold foundA; rw [if_neg (by omega)]] at hd
      have DD := Aside0.mk hd
      have W3 := Aside0.mk W2
      clear hd W2
      generalize ts.set (0 : Int).toNat ⟨true, true, F, (i : Int)⟩ = ts2 at DD W3
      go_wp2_with fail
      refine (mdo_calls 5000 (okm w b9) _ _ _ (okm w b9) _ _ _ _ _ _ _ _ _ _ _ _ _ _ _ _ _ (rb LX.out.ks.v0) (rb LX.out.ks.v1) DD.out).mono ?_
      rintro e w5 ⟨v0, v1, v6, rfl, V0, V1, V6, hb⟩
      obtain ⟨A8, c8, rfl⟩ := Kd.V_slice V0
      obtain ⟨A9, c9, rfl⟩ := Kd.V_slice V1
      obtain ⟨A19, c19, rfl⟩ := Kd.V_slice V6
      have X5 := Aside0.mk (LX.out.ks.bx.below hb)
      have TW := Aside0.mk (LX.out.below hb)
      have U0 := Aside0.mk V0
      have U1 := Aside0.mk V1
      clear V0 V1 V6 hb s0 s1 LX
      go_upto_region 32 with (fail)
      refine gen2 (Φ := fun X => KF w X b9 ((w5.heap.size + 1, #[.int .i64 4, .int .i64 0, .int .i64 0, .int .i64 0, .slice A19 0 c19], 34) :: (w5.heap.size, #[.slice A8 l.length c8, .slice A9 (ts2).length c9], 27) :: (b16 + 1, #[.int .i64 1, .int .i64 key, .int .i64 bv, .int .i64 0, .slice A16 0 c16], 34) :: (b16, #[.slice B8 l8.length d8, .slice B9 t9_.length d9], 27) :: (b14, #[.int .i64 3, .int .i64 0, .int .i64 0, .int .i64 0, .slice A14 F.length c14], 34) :: (b13, #[.int .i64 1, .int .i64 key, .int .i64 bv, .int .i64 0, .slice A13 0 c13], 34) :: (b12, #[.int .i64 i0, .int .i64 0, .int .i64 0, .int .i64 0, .slice A12 0 c12], 34) :: (b11, #[.int .i64 k0, .int .i64 k1, .int .i64 k2, .int .i64 0, .slice A11 0 c11], 34) :: [(b5, #[.int .i64 key, .int .i64 val], 47)]) A0 c0 A1 c1 l ts A14 c14 F ∧ Kd.V k49 49 X 0 (okm w b9) (.slice A8 l.length c8) l ∧ Kd.V k62 62 X 0 (okm w b9) (.slice A9 (ts2).length c9) (ts2)) (KF.two TW.out Z9.out U0.out U1.out rfl) ?_
      intro x31 HX
      have LX := Aside0.mk HX
      obtain ⟨b19, hnb⟩ : ∃ b, w5.heap.size = b := ⟨_, rfl⟩
      rw [hnb] at LX ⊢
      clear HX X5 TW Z9 U0 U1 hnb
      have LB := LX.out.1.ks.bx
      have s0 := (LB.cell 2 0 rfl).trans rfl
      have s1 := (LB.cell 2 1 rfl).trans rfl
      have z0 := (LB.cell 0 0 rfl).trans rfl
      have z1 := (LB.cell 0 1 rfl).trans rfl
      have zf0 := LB.frz 0 0 rfl
      have zf1 := LB.frz 0 1 rfl
      clear LB
      go_upto_region 33 with (fail)
      refine gen2 (Φ := fun X => KF w X b9 ((b19 + 1, #[.int .i64 4, .int .i64 0, .int .i64 0, .int .i64 0, .slice A19 0 c19], 34) :: (b19, #[.slice A8 l.length c8, .slice A9 ts2.length c9], 27) :: (b16 + 1, #[.int .i64 1, .int .i64 key, .int .i64 bv, .int .i64 0, .slice A16 0 c16], 34) :: (b16, #[.slice B8 l8.length d8, .slice B9 t9_.length d9], 27) :: (b14, #[.int .i64 3, .int .i64 0, .int .i64 0, .int .i64 0, .slice A14 F.length c14], 34) :: (b13, #[.int .i64 1, .int .i64 key, .int .i64 bv, .int .i64 0, .slice A13 0 c13], 34) :: (b12, #[.int .i64 i0, .int .i64 0, .int .i64 0, .int .i64 0, .slice A12 0 c12], 34) :: (b11, #[.int .i64 k0, .int .i64 k1, .int .i64 k2, .int .i64 0, .slice A11 0 c11], 34) :: [(b5, #[.int .i64 key, .int .i64 val], 47)]) A8 c8 A9 c9 l ts2 A14 c14 F) (KF.putC LX.out) ?_
      intro x33 HX
      replace LX := Aside0.mk HX
      clear HX s0 s1 z0 z1 zf0 zf1
      have LB := LX.out.ks.bx
      have y4 := (LB.cell 5 4 rfl).trans rfl
      have de : ((i : Int) == (F.length : Int)) = true := by rw [beq_iff_eq]; omega
      have s0 := (LB.cell 1 0 rfl).trans rfl
      clear LB
      go_wp2_with fail
      refine (lives_true _).mono ?_
      rintro e w9 ⟨rfl, hb⟩
      go_wp2
      go_ret
      exact ⟨rfl, below_then LX.out.ks.bx.b LX.out.ks.bx.b.size hb⟩
set_option maxHeartbeats 8000000 in
set_option maxRecDepth 100000 in
theorem t15 {l0 : List S40} {Aa : Option Addr} {ca : Nat} {l1 : List S40} {Ab : Option Addr} {cb : Nat} {key val : Int} {w : World} (hc0 : l0.length ≤ ca) (hc1 : l1.length ≤ cb) (HR0 : Aside0 (Kd.C k40 w Aa l0.length l0)) (HR1 : Aside0 (Kd.C k40 w Ab l1.length l1)) (hl0 : l0.length ≤ 60) (hl1 : l1.length ≤ 60) {b5 b9 : Nat} {A0 : Option Addr} {c0 : Nat} {A1 : Option Addr} {c1 : Nat} {k0 k1 k2 i0 : Int} {b11 : Nat} {A11 : Option Addr} {c11 : Nat} {b12 : Nat} {A12 : Option Addr} {c12 : Nat} {b13 : Nat} {A13 : Option Addr} {c13 : Nat} {b14 : Nat} {A14 : Option Addr} {c14 : Nat} {l F : List S49} {ts : List S62} {bv : Int} {x19 : World} (LX : Aside0 (KF w x19 b9 ((b14, #[.int .i64 3, .int .i64 0, .int .i64 0, .int .i64 0, .slice A14 F.length c14], 34) :: (b13, #[.int .i64 1, .int .i64 key, .int .i64 bv, .int .i64 0, .slice A13 0 c13], 34) :: (b12, #[.int .i64 i0, .int .i64 0, .int .i64 0, .int .i64 0, .slice A12 0 c12], 34) :: (b11, #[.int .i64 k0, .int .i64 k1, .int .i64 k2, .int .i64 0, .slice A11 0 c11], 34) :: [(b5, #[.int .i64 key, .int .i64 val], 47)]) A0 c0 A1 c1 l ts A14 c14 F)) (P8 : Aside0 (model_State_Do.f 5000 l ts 0 2 key 0 0 0 = some (l, ts, 1, key, bv, 0, []))) (WF : Aside0 (WfS (l0.length + 7 + l1.length) l ts)) (RR : Aside0 (R0 ts ⟨true, true, F, 0⟩)) (PF : Aside0 (F.length ≤ l0.length + 1)) {m3 m4 m10 m15 m16 m17 m18 m19 m20 m21 m22 m23 m24 m25 m26 m27 m28 m29 m30 m31 m32 m33 m34 m35 m36 m37 m38 m39 m40 m41 m42 m43 m44 m45 m46 m47 m48 m49 m50 m51 m52 m53 m54 m55 m56 m57 m58 m59 m60 m61 m62 m63 m64 m65 m66 m67 m68 m69 m70 m71 m72 m73 m74 m75 m76 m77 m78 m79 m80 m81 m82 m83 m84 m85 m86 m87 m88 m89 m90 m91 m92 m93 m94 m95 m96 m97 m98 m99 m100 m101 m102 m103 m104 m105 m106 m107 m108 m109 m110 m111 m112 m113 m114 m115 m116 m117 m118 m119 m120 m121 m122 m123 m124 m125 m126 m127 m128 m129 m130 m131 m132 m133 m134 m135 m136 m137 m138 m139 m140 m141 m142 m143 m144 m145 m146 m147 m148 m149 m150 m151 m152 m153 m154 m155 m156 m157 m158 m159 m160 m161 m162 m163 m164 m165 m166 m167 m168 m169 m170 m171 m172 m173 m174 m175 m176 m177 m178 m179 m180 m181 m182 m183 m184 m185 m186 m187 m188 m189 m190 m191 m192 m193 m194 m195 m196 m197 m198 m199 m200 m201 m202 m203 m204 m205 m206 m207 m208 m209 m210 m211 m212 m213 m214 m215 m216 m217 m218 m219 m220 m221 m222 m223 m224 m225 m226 m227 m228 m229 m230 m231 m232 m233 m234 m235 m236 m237 m238 m239 m240 m241 m242 m243 m244 m245 m246 m247 : Value} :
    Code.wp Try.prog (tl 15 (bodyC Try.f4)) (bodyPost Try.prog Try.f4 fun e w' => e = .returned (.bool true) ∧ Below w.heap.size w w') { tmps := List.toArray (.slice Aa l0.length ca :: .slice Ab l1.length cb :: .agg #[.int .i64 key, .int .i64 val] :: m3 :: m4 :: .pointer (some ⟨b5, 0, none⟩) :: .bool false :: .int .i64 key :: .int .i64 val :: .pointer (some ⟨b9, 0, none⟩) :: m10 :: .pointer (some ⟨b11, 0, none⟩) :: .pointer (some ⟨b12, 0, none⟩) :: .pointer (some ⟨b13, 0, none⟩) :: .pointer (some ⟨b14, 0, none⟩) :: m15 :: m16 :: m17 :: m18 :: m19 :: m20 :: m21 :: m22 :: m23 :: m24 :: m25 :: m26 :: m27 :: m28 :: m29 :: m30 :: m31 :: m32 :: m33 :: m34 :: m35 :: m36 :: m37 :: m38 :: m39 :: m40 :: m41 :: m42 :: m43 :: m44 :: m45 :: m46 :: m47 :: m48 :: m49 :: m50 :: m51 :: m52 :: m53 :: m54 :: m55 :: m56 :: m57 :: m58 :: m59 :: m60 :: m61 :: m62 :: m63 :: m64 :: m65 :: m66 :: m67 :: m68 :: m69 :: m70 :: m71 :: m72 :: m73 :: m74 :: m75 :: m76 :: m77 :: m78 :: m79 :: m80 :: m81 :: m82 :: m83 :: m84 :: m85 :: m86 :: m87 :: m88 :: m89 :: m90 :: m91 :: m92 :: m93 :: m94 :: m95 :: m96 :: m97 :: m98 :: m99 :: m100 :: m101 :: m102 :: m103 :: m104 :: m105 :: m106 :: m107 :: m108 :: m109 :: m110 :: m111 :: m112 :: m113 :: m114 :: m115 :: m116 :: m117 :: m118 :: m119 :: m120 :: m121 :: m122 :: m123 :: m124 :: m125 :: m126 :: m127 :: m128 :: m129 :: m130 :: m131 :: m132 :: m133 :: m134 :: m135 :: m136 :: m137 :: m138 :: m139 :: m140 :: m141 :: m142 :: m143 :: m144 :: m145 :: m146 :: m147 :: m148 :: m149 :: m150 :: m151 :: m152 :: m153 :: m154 :: m155 :: m156 :: m157 :: m158 :: m159 :: m160 :: m161 :: m162 :: m163 :: m164 :: m165 :: m166 :: m167 :: m168 :: m169 :: m170 :: m171 :: m172 :: m173 :: m174 :: m175 :: m176 :: m177 :: m178 :: m179 :: m180 :: m181 :: m182 :: m183 :: m184 :: m185 :: m186 :: m187 :: m188 :: m189 :: m190 :: m191 :: m192 :: m193 :: m194 :: m195 :: m196 :: m197 :: m198 :: m199 :: m200 :: m201 :: m202 :: m203 :: m204 :: m205 :: m206 :: m207 :: m208 :: m209 :: m210 :: m211 :: m212 :: m213 :: m214 :: m215 :: m216 :: m217 :: m218 :: m219 :: m220 :: m221 :: m222 :: m223 :: m224 :: m225 :: m226 :: m227 :: m228 :: m229 :: m230 :: m231 :: m232 :: m233 :: m234 :: m235 :: m236 :: m237 :: m238 :: m239 :: m240 :: m241 :: m242 :: m243 :: m244 :: m245 :: m246 :: m247 :: []), defers := [] } x19 := by
  have hu27 := Try.underlying27
  have hu38 := Try.underlying38
  have hu34 := Try.underlying34
  have hu47 := Try.underlying47
  have hu40 := Try.underlying40
  conv => arg 2; whnf
  go_upto_region 25 with (fail)
  have LB := LX.out.ks.bx
  have s0 := (LB.cell 0 0 rfl).trans rfl
  have s1 := (LB.cell 0 1 rfl).trans rfl
  have Z9 := Aside0.mk (show b9 < x19.heap.size ∧ w.heap.size ≤ x19.heap.size from ⟨LB.lt 0 rfl, LB.b.size⟩)
  clear LB
  go_wp2_with fail
  refine (mdo_calls 5000 (okm w b9) _ _ _ (okm w b9) _ _ _ _ _ _ _ _ _ _ _ _ _ _ _ _ _ (rb LX.out.ks.v0) (rb LX.out.ks.v1) P8.out).mono ?_
  rintro e w5 ⟨v0, v1, v6, rfl, V0, V1, V6, hb⟩
  obtain ⟨A8, c8, rfl⟩ := Kd.V_slice V0
  obtain ⟨A9, c9, rfl⟩ := Kd.V_slice V1
  obtain ⟨A16, c16, rfl⟩ := Kd.V_slice V6
  have X5 := Aside0.mk (LX.out.ks.bx.below hb)
  have TW := Aside0.mk (LX.out.below hb)
  have U0 := Aside0.mk V0
  have U1 := Aside0.mk V1
  clear V0 V1 V6 hb s0 s1 LX
  go_upto_region 26 with (fail)
  refine gen2 (Φ := fun X => KF w X b9 ((w5.heap.size + 1, #[.int .i64 1, .int .i64 key, .int .i64 bv, .int .i64 0, .slice A16 0 c16], 34) :: (w5.heap.size, #[.slice A8 l.length c8, .slice A9 (ts).length c9], 27) :: (b14, #[.int .i64 3, .int .i64 0, .int .i64 0, .int .i64 0, .slice A14 F.length c14], 34) :: (b13, #[.int .i64 1, .int .i64 key, .int .i64 bv, .int .i64 0, .slice A13 0 c13], 34) :: (b12, #[.int .i64 i0, .int .i64 0, .int .i64 0, .int .i64 0, .slice A12 0 c12], 34) :: (b11, #[.int .i64 k0, .int .i64 k1, .int .i64 k2, .int .i64 0, .slice A11 0 c11], 34) :: [(b5, #[.int .i64 key, .int .i64 val], 47)]) A0 c0 A1 c1 l ts A14 c14 F ∧ Kd.V k49 49 X 0 (okm w b9) (.slice A8 l.length c8) l ∧ Kd.V k62 62 X 0 (okm w b9) (.slice A9 (ts).length c9) (ts)) (KF.two TW.out Z9.out U0.out U1.out rfl) ?_
  intro x25 HX
  have LX := Aside0.mk HX
  obtain ⟨b16, hnb⟩ : ∃ b, w5.heap.size = b := ⟨_, rfl⟩
  rw [hnb] at LX ⊢
  clear HX X5 TW Z9 U0 U1 hnb
  replace LX := Aside0.mk LX.out.1
  go_cut [197] (fun v197 wc => v197 = .bool false ∧ Aside0 (Below x25.heap.size x25 wc))
  case first =>
    have LB := LX.out.ks.bx
    have y0 := (LB.cell 1 0 rfl).trans rfl
    have z0 := (LB.cell 4 0 rfl).trans rfl
    have y1 := (LB.cell 1 1 rfl).trans rfl
    have z1 := (LB.cell 4 1 rfl).trans rfl
    have y2 := (LB.cell 1 2 rfl).trans rfl
    have z2 := (LB.cell 4 2 rfl).trans rfl
    have y3 := (LB.cell 1 3 rfl).trans rfl
    have z3 := (LB.cell 4 3 rfl).trans rfl
    have y4 := (LB.cell 1 4 rfl).trans rfl
    have z4 := (LB.cell 4 4 rfl).trans rfl
    clear LB
    have EQ := Aside0.mk (same_self key bv)
    go_wp2_with fail
    refine (call_Same.calls 1000001 1 key bv 0 A16 c16 ([] : List S49) 1 key bv 0 A13 c13 ([] : List S49) true x25 (cn _ _ _) (Nat.zero_le _) (cn _ _ _) (Nat.zero_le _) EQ.out).mono ?_
    rintro e wz ⟨rfl, hb⟩
    have LB2 := (LX.out.below hb).ks.bx
    have v0 := (LB2.cell 3 0 rfl).trans rfl
    clear LB2
    go_wp2_with fail
    go_meet
    exact ⟨rfl, ⟨hb⟩⟩
  case rest =>
    obtain ⟨rfl, hx⟩ := hcut
    replace LX := Aside0.mk (LX.out.below hx.out)
    clear hx
    rename_i KK hKK K2 hK2
    have HKK := Aside0.mk hKK
    clear hKK
    go_wp2
    refine HKK.out _ _ ?_
    exact t17 hc0 hc1 HR0 HR1 hl0 hl1 LX WF RR PF
set_option maxHeartbeats 8000000 in
set_option maxRecDepth 100000 in
theorem t13 {l0 : List S40} {Aa : Option Addr} {ca : Nat} {l1 : List S40} {Ab : Option Addr} {cb : Nat} {key val : Int} {w : World} (hc0 : l0.length ≤ ca) (hc1 : l1.length ≤ cb) (HR0 : Aside0 (Kd.C k40 w Aa l0.length l0)) (HR1 : Aside0 (Kd.C k40 w Ab l1.length l1)) (hl0 : l0.length ≤ 60) (hl1 : l1.length ≤ 60) {b5 b9 : Nat} {A0 : Option Addr} {c0 : Nat} {A1 : Option Addr} {c1 : Nat} {b11 : Nat} {A11 : Option Addr} {c11 : Nat} {b12 : Nat} {A12 : Option Addr} {c12 : Nat} {b13 : Nat} {A13 : Option Addr} {c13 : Nat} {b14 : Nat} {A14 : Option Addr} {c14 : Nat} {l2 F : List S49} {ts2 ts3 : List S62} {k0 k1 k2 i0 bv : Int} {x18 : World} (LX : Aside0 (KF w x18 b9 ((b14, #[.int .i64 3, .int .i64 0, .int .i64 0, .int .i64 0, .slice A14 F.length c14], 34) :: (b13, #[.int .i64 1, .int .i64 key, .int .i64 bv, .int .i64 0, .slice A13 0 c13], 34) :: (b12, #[.int .i64 i0, .int .i64 0, .int .i64 0, .int .i64 0, .slice A12 0 c12], 34) :: (b11, #[.int .i64 k0, .int .i64 k1, .int .i64 k2, .int .i64 0, .slice A11 0 c11], 34) :: [(b5, #[.int .i64 key, .int .i64 val], 47)]) A0 c0 A1 c1 l2 ts2 A14 c14 F)) (P7 : Aside0 (model_State_Do.f 5000 l2 ts2 0 9 (-9223372036854775808) 0 9223372036854775807 0 = some (l2, ts3, 0, 0, 0, 0, []))) (PR : Aside0 (R0 ts3 ⟨true, true, F, 0⟩)) (PW : Aside0 (WfS (l0.length + 7) l2 ts3)) (PK : Aside0 (lookA l2 key = (1, key, bv, 0, []))) (PF : Aside0 (F.length ≤ l0.length + 1))  {m3 m4 m10 m15 m16 m17 m18 m19 m20 m21 m22 m23 m24 m25 m26 m27 m28 m29 m30 m31 m32 m33 m34 m35 m36 m37 m38 m39 m40 m41 m42 m43 m44 m45 m46 m47 m48 m49 m50 m51 m52 m53 m54 m55 m56 m57 m58 m59 m60 m61 m62 m63 m64 m65 m66 m67 m68 m69 m70 m71 m72 m73 m74 m75 m76 m77 m78 m79 m80 m81 m82 m83 m84 m85 m86 m87 m88 m89 m90 m91 m92 m93 m94 m95 m96 m97 m98 m99 m100 m101 m102 m103 m104 m105 m106 m107 m108 m109 m110 m111 m112 m113 m114 m115 m116 m117 m118 m119 m120 m121 m122 m123 m124 m125 m126 m127 m128 m129 m130 m131 m132 m133 m134 m135 m136 m137 m138 m139 m140 m141 m142 m143 m144 m145 m146 m147 m148 m149 m150 m151 m152 m153 m154 m155 m156 m157 m158 m159 m160 m161 m162 m163 m164 m165 m166 m167 m168 m169 m170 m171 m172 m173 m174 m175 m176 m177 m178 m179 m180 m181 m182 m183 m184 m185 m186 m187 m188 m189 m190 m191 m192 m193 m194 m195 m196 m197 m198 m199 m200 m201 m202 m203 m204 m205 m206 m207 m208 m209 m210 m211 m212 m213 m214 m215 m216 m217 m218 m219 m220 m221 m222 m223 m224 m225 m226 m227 m228 m229 m230 m231 m232 m233 m234 m235 m236 m237 m238 m239 m240 m241 m242 m243 m244 m245 m246 m247 : Value} :
    Code.wp Try.prog (tl 13 (bodyC Try.f4)) (bodyPost Try.prog Try.f4 fun e w' => e = .returned (.bool true) ∧ Below w.heap.size w w') { tmps := List.toArray (.slice Aa l0.length ca :: .slice Ab l1.length cb :: .agg #[.int .i64 key, .int .i64 val] :: m3 :: m4 :: .pointer (some ⟨b5, 0, none⟩) :: .bool false :: .int .i64 key :: .int .i64 val :: .pointer (some ⟨b9, 0, none⟩) :: m10 :: .pointer (some ⟨b11, 0, none⟩) :: .pointer (some ⟨b12, 0, none⟩) :: .pointer (some ⟨b13, 0, none⟩) :: .pointer (some ⟨b14, 0, none⟩) :: m15 :: m16 :: m17 :: m18 :: m19 :: m20 :: m21 :: m22 :: m23 :: m24 :: m25 :: m26 :: m27 :: m28 :: m29 :: m30 :: m31 :: m32 :: m33 :: m34 :: m35 :: m36 :: m37 :: m38 :: m39 :: m40 :: m41 :: m42 :: m43 :: m44 :: m45 :: m46 :: m47 :: m48 :: m49 :: m50 :: m51 :: m52 :: m53 :: m54 :: m55 :: m56 :: m57 :: m58 :: m59 :: m60 :: m61 :: m62 :: m63 :: m64 :: m65 :: m66 :: m67 :: m68 :: m69 :: m70 :: m71 :: m72 :: m73 :: m74 :: m75 :: m76 :: m77 :: m78 :: m79 :: m80 :: m81 :: m82 :: m83 :: m84 :: m85 :: m86 :: m87 :: m88 :: m89 :: m90 :: m91 :: m92 :: m93 :: m94 :: m95 :: m96 :: m97 :: m98 :: m99 :: m100 :: m101 :: m102 :: m103 :: m104 :: m105 :: m106 :: m107 :: m108 :: m109 :: m110 :: m111 :: m112 :: m113 :: m114 :: m115 :: m116 :: m117 :: m118 :: m119 :: m120 :: m121 :: m122 :: m123 :: m124 :: m125 :: m126 :: m127 :: m128 :: m129 :: m130 :: m131 :: m132 :: m133 :: m134 :: m135 :: m136 :: m137 :: m138 :: m139 :: m140 :: m141 :: m142 :: m143 :: m144 :: m145 :: m146 :: m147 :: m148 :: m149 :: m150 :: m151 :: m152 :: m153 :: m154 :: m155 :: m156 :: m157 :: m158 :: m159 :: m160 :: m161 :: m162 :: m163 :: m164 :: m165 :: m166 :: m167 :: m168 :: m169 :: m170 :: m171 :: m172 :: m173 :: m174 :: m175 :: m176 :: m177 :: m178 :: m179 :: m180 :: m181 :: m182 :: m183 :: m184 :: m185 :: m186 :: m187 :: m188 :: m189 :: m190 :: m191 :: m192 :: m193 :: m194 :: m195 :: m196 :: m197 :: m198 :: m199 :: m200 :: m201 :: m202 :: m203 :: m204 :: m205 :: m206 :: m207 :: m208 :: m209 :: m210 :: m211 :: m212 :: m213 :: m214 :: m215 :: m216 :: m217 :: m218 :: m219 :: m220 :: m221 :: m222 :: m223 :: m224 :: m225 :: m226 :: m227 :: m228 :: m229 :: m230 :: m231 :: m232 :: m233 :: m234 :: m235 :: m236 :: m237 :: m238 :: m239 :: m240 :: m241 :: m242 :: m243 :: m244 :: m245 :: m246 :: m247 :: []), defers := [] } x18 := by
  have hu27 := Try.underlying27
  have hu38 := Try.underlying38
  have hu34 := Try.underlying34
  have hu47 := Try.underlying47
  have hu40 := Try.underlying40
  conv => arg 2; whnf
  go_upto_region 19 with (fail)
  have LB := LX.out.ks.bx
  have s0 := (LB.cell 0 0 rfl).trans rfl
  have s1 := (LB.cell 0 1 rfl).trans rfl
  have Z9 := Aside0.mk (show b9 < x18.heap.size ∧ w.heap.size ≤ x18.heap.size from ⟨LB.lt 0 rfl, LB.b.size⟩)
  clear LB
  go_wp2_with fail
  refine (mdo_calls 5000 (okm w b9) _ _ _ (okm w b9) _ _ _ _ _ _ _ _ _ _ _ _ _ _ _ _ _ (rb LX.out.ks.v0) (rb LX.out.ks.v1) P7.out).mono ?_
  rintro e w5 ⟨v0, v1, v6, rfl, V0, V1, V6, hb⟩
  obtain ⟨A8, c8, rfl⟩ := Kd.V_slice V0
  obtain ⟨A9, c9, rfl⟩ := Kd.V_slice V1
  obtain ⟨A6, c6, rfl⟩ := Kd.V_slice V6
  have X5 := Aside0.mk (LX.out.ks.bx.below hb)
  have KN := Aside0.mk (KF.put X5.out Z9.out V0 V1 (Kd.V_below LX.out.vf hb))
  have z0 := (X5.out.cell 0 0 rfl).trans rfl
  have z1 := (X5.out.cell 0 1 rfl).trans rfl
  have zf0 := X5.out.frz 0 0 rfl
  have zf1 := X5.out.frz 0 1 rfl
  clear V0 V1 V6 hb s0 s1 LX
  go_upto_region 20 with (fail)
  refine gen2 (Φ := fun X => KF w X b9 ((b14, #[.int .i64 3, .int .i64 0, .int .i64 0, .int .i64 0, .slice A14 F.length c14], 34) :: (b13, #[.int .i64 1, .int .i64 key, .int .i64 bv, .int .i64 0, .slice A13 0 c13], 34) :: (b12, #[.int .i64 i0, .int .i64 0, .int .i64 0, .int .i64 0, .slice A12 0 c12], 34) :: (b11, #[.int .i64 k0, .int .i64 k1, .int .i64 k2, .int .i64 0, .slice A11 0 c11], 34) :: [(b5, #[.int .i64 key, .int .i64 val], 47)]) A8 c8 A9 c9 l2 ts3 A14 c14 F) KN.out ?_
  intro x19 HX
  have LX := Aside0.mk HX
  clear HX KN X5 Z9 z0 z1 zf0 zf1
  rename_i KK hKK K2 hK2
  have HKK := Aside0.mk hKK
  clear hKK
  go_wp2
  go_loopg [15] l1.length (fun kx s15 wr => ∃ (j : Nat) (A0 : Option Addr) (c0 : Nat) (A1 : Option Addr) (c1 : Nat) (l : List S49) (ts : List S62), s15 = .int .i64 j ∧ j + kx = l1.length ∧ Aside0 (KF w wr b9 ((b14, #[.int .i64 3, .int .i64 0, .int .i64 0, .int .i64 0, .slice A14 F.length c14], 34) :: (b13, #[.int .i64 1, .int .i64 key, .int .i64 bv, .int .i64 0, .slice A13 0 c13], 34) :: (b12, #[.int .i64 i0, .int .i64 0, .int .i64 0, .int .i64 0, .slice A12 0 c12], 34) :: (b11, #[.int .i64 k0, .int .i64 k1, .int .i64 k2, .int .i64 0, .slice A11 0 c11], 34) :: [(b5, #[.int .i64 key, .int .i64 val], 47)]) A0 c0 A1 c1 l ts A14 c14 F) ∧ Aside0 (WfS (l0.length + 7 + j) l ts) ∧ Aside0 (R0 ts ⟨true, true, F, 0⟩) ∧ Aside0 (lookA l key = (1, key, bv, 0, [])))
  case atStart => exact ⟨0, A8, c8, A9, c9, l2, ts3, rfl, by omega, LX, PW, PR, PK⟩
  case round =>
    clear LX PW PR PK P7
    obtain ⟨j, A0, c0, A1, c1, l, ts, rfl, hj, LX, WF, RR, LK⟩ := hrel
    by_cases hlt : j < l1.length
    · have q1 : (j : Int) < (l1.length : Int) := by omega
      have LB := LX.out.ks.bx
      obtain ⟨ad, Ay, cy, rfl, p0, p1, p2, p3, p4, p5, _, _, _, _, _, _, _⟩ := at_T40 HR1.out (j : Int) (by omega) (by omega)
      have erd : rd_T40 l1 (j : Int) = l1[j] := by unfold rd_T40; rw [Int.toNat_natCast]; simp [List.getD, hlt]
      rw [erd, Int.toNat_natCast] at p0 p1 p2 p3 p4 p5
      generalize l1[j] = y at p0 p1 p2 p3 p4 p5
      replace p0 := cell_below LB.b p0
      replace p1 := cell_below LB.b p1
      replace p2 := cell_below LB.b p2
      replace p3 := cell_below LB.b p3
      replace p4 := cell_below LB.b p4
      replace p5 := cell_below LB.b p5
      by_cases t0 : y.f0 = 0
      · have gg1 : (y.f0 == 0) = true := beq_iff_eq.2 t0
        clear LB t0 erd
        go_wp2_with fail
        go_roundg (l1.length - (j + 1))
        all_goals try (exact (show l1.length - (j + 1) < _ by omega))
        exact ⟨j + 1, A0, c0, A1, c1, l, ts, by go_num, by omega, LX, Aside0.mk (wfS_mono WF.out (by omega)), RR, LK⟩
      · have gg1 : (y.f0 == 0) = false := beq_eq_false_iff_ne.2 t0
        by_cases t1 : y.f1.f1 = key
        · have gg2 : (y.f1.f1 == key) = true := beq_iff_eq.2 t1
          clear LB t0 t1 erd
          go_wp2_with fail
          go_roundg (l1.length - (j + 1))
          all_goals try (exact (show l1.length - (j + 1) < _ by omega))
          exact ⟨j + 1, A0, c0, A1, c1, l, ts, by go_num, by omega, LX, Aside0.mk (wfS_mono WF.out (by omega)), RR, LK⟩
        · have gg2 : (y.f1.f1 == key) = false := beq_eq_false_iff_ne.2 t1
          have s0 := (LB.cell 0 0 rfl).trans rfl
          have s1 := (LB.cell 0 1 rfl).trans rfl
          obtain ⟨⟨g1, g2, g3, g4, g5, g6, g7⟩, hd⟩ : ∃ r, model_State_Do.f 5000 l ts y.f0 y.f1.f0 y.f1.f1 y.f1.f2 y.f1.f3 y.f1.f4 = some r := ⟨_, do_eq WF.out (by omega) _ _ _ _ _ _⟩
          have W2 := do_wf WF.out (by omega) y.f0 y.f1.f0 y.f1.f1 y.f1.f2 y.f1.f3 y.f1.f4
          have K2 : R0 (doA l ts y.f0 y.f1.f0 y.f1.f1 y.f1.f2 y.f1.f3 y.f1.f4).2.1 _ := keep_r0 RR.out t0
          have K3 := (keep_look WF.out y.f0 y.f1.f0 y.f1.f1 y.f1.f2 y.f1.f3 y.f1.f4 key t1).trans LK.out
          have hd2 := hd
          rw [do_eq WF.out (by omega)] at hd2
          rw [Option.some.inj hd2] at W2 K2 K3
          simp only at W2 K2 K3
          have WF2 := Aside0.mk W2
          have RR2 := Aside0.mk K2
          have LK2 := Aside0.mk K3
          have DD := Aside0.mk hd
          have CW := Aside0.mk (fun W (hb : Below wr.heap.size wr W) => mdo_calls 5000 (okm w b9) A0 c0 l (okm w b9) A1 c1 ts _ _ _ _ _ _ _ _ _ _ _ _ _ W (rb (Kd.V_below LX.out.ks.v0 hb)) (rb (Kd.V_below LX.out.ks.v1 hb)) DD.out)
          have Z9 := Aside0.mk (show b9 < wr.heap.size ∧ w.heap.size ≤ wr.heap.size from ⟨LB.lt 0 rfl, LB.b.size⟩)
          clear hd hd2 W2 K2 K3 LB erd t0 t1
          go_upto_region 24 with (fail)
          go_region_law (go_simp; go_at_call 10; refine (CW.out _ (below_drew1 (Below.refl _ _))).mono ?_; rintro e w5 ⟨v0, v1, v6, rfl, V0, V1, V6, hb⟩; obtain ⟨A8, c8, rfl⟩ := Kd.V_slice V0; obtain ⟨A9, c9, rfl⟩ := Kd.V_slice V1; obtain ⟨A6, c6, rfl⟩ := Kd.V_slice V6; have X5 := Aside0.mk (LX.out.ks.bx.below (below_then (below_drew1 (Below.refl wr.heap.size wr)) (Nat.le_refl _) hb)); have U0 := Aside0.mk V0; have U1 := Aside0.mk V1; have UF := Aside0.mk (Kd.V_below LX.out.vf (below_then (below_drew1 (Below.refl wr.heap.size wr)) (Nat.le_refl _) hb)); have z0 := (X5.out.cell 0 0 rfl).trans rfl; have z1 := (X5.out.cell 0 1 rfl).trans rfl; have zf0 := X5.out.frz 0 0 rfl; have zf1 := X5.out.frz 0 1 rfl; clear V0 V1 V6 hb)
          all_goals have KN := Aside0.mk (KF.put X5.out Z9.out U0.out U1.out UF.out)
          all_goals clear z0 z1 zf0 zf1 X5 U0 U1 UF
          all_goals go_wp2
          all_goals go_roundg (l1.length - (j + 1))
          all_goals try (exact (show l1.length - (j + 1) < _ by omega))
          all_goals exact ⟨j + 1, A8, c8, A9, c9, g1, g2, by go_num, by omega, KN, WF2, RR2, LK2⟩
    · obtain rfl : j = l1.length := by omega
      have q1 : ¬ (l1.length : Int) < (l1.length : Int) := by omega
      have P8 := Aside0.mk ((do_eq WF.out (by omega) 0 2 key 0 0 0).trans (congrArg some ((do_look WF.out.r RR.out rfl key).trans (by rw [LK.out]))))
      go_wp2
      refine HKK.out _ _ ?_
      exact t15 hc0 hc1 HR0 HR1 hl0 hl1 LX P8 WF RR PF
set_option maxHeartbeats 8000000 in
set_option maxRecDepth 100000 in
theorem t11 {l0 : List S40} {Aa : Option Addr} {ca : Nat} {l1 : List S40} {Ab : Option Addr} {cb : Nat} {key val : Int} {w : World} (hc0 : l0.length ≤ ca) (hc1 : l1.length ≤ cb) (HR0 : Aside0 (Kd.C k40 w Aa l0.length l0)) (HR1 : Aside0 (Kd.C k40 w Ab l1.length l1)) (hl0 : l0.length ≤ 60) (hl1 : l1.length ≤ 60) {b5 b9 : Nat} {A0 : Option Addr} {c0 : Nat} {A1 : Option Addr} {c1 : Nat} {b11 : Nat} {A11 : Option Addr} {c11 : Nat} {b12 : Nat} {A12 : Option Addr} {c12 : Nat} {b13 : Nat} {A13 : Option Addr} {c13 : Nat} {l2 F : List S49} {ts2 ts3 : List S62} {k0 k1 k2 i0 bv : Int} {x15 : World} (LX : Aside0 (KS w x15 b9 ((b13, #[.int .i64 1, .int .i64 key, .int .i64 bv, .int .i64 0, .slice A13 0 c13], 34) :: (b12, #[.int .i64 i0, .int .i64 0, .int .i64 0, .int .i64 0, .slice A12 0 c12], 34) :: (b11, #[.int .i64 k0, .int .i64 k1, .int .i64 k2, .int .i64 0, .slice A11 0 c11], 34) :: [(b5, #[.int .i64 key, .int .i64 val], 47)]) A0 c0 A1 c1 l2 ts2)) (P6 : Aside0 (model_State_Do.f 5000 l2 ts2 0 3 (-9223372036854775808) 0 9223372036854775807 1000 = some (l2, ts2, 3, 0, 0, 0, F))) (P7 : Aside0 (model_State_Do.f 5000 l2 ts2 0 9 (-9223372036854775808) 0 9223372036854775807 0 = some (l2, ts3, 0, 0, 0, 0, []))) (PR : Aside0 (R0 ts3 ⟨true, true, F, 0⟩)) (PW : Aside0 (WfS (l0.length + 7) l2 ts3)) (PK : Aside0 (lookA l2 key = (1, key, bv, 0, []))) (PF : Aside0 (F.length ≤ l0.length + 1)) (PC : Aside0 ((k0 = 4 ∧ i0 = 0 ∧ bv = val) ∨ (k0 = 1 ∧ i0 = 5 ∧ k1 = key ∧ k2 = bv))) {m3 m4 m10 m14 m15 m16 m17 m18 m19 m20 m21 m22 m23 m24 m25 m26 m27 m28 m29 m30 m31 m32 m33 m34 m35 m36 m37 m38 m39 m40 m41 m42 m43 m44 m45 m46 m47 m48 m49 m50 m51 m52 m53 m54 m55 m56 m57 m58 m59 m60 m61 m62 m63 m64 m65 m66 m67 m68 m69 m70 m71 m72 m73 m74 m75 m76 m77 m78 m79 m80 m81 m82 m83 m84 m85 m86 m87 m88 m89 m90 m91 m92 m93 m94 m95 m96 m97 m98 m99 m100 m101 m102 m103 m104 m105 m106 m107 m108 m109 m110 m111 m112 m113 m114 m115 m116 m117 m118 m119 m120 m121 m122 m123 m124 m125 m126 m127 m128 m129 m130 m131 m132 m133 m134 m135 m136 m137 m138 m139 m140 m141 m142 m143 m144 m145 m146 m147 m148 m149 m150 m151 m152 m153 m154 m155 m156 m157 m158 m159 m160 m161 m162 m163 m164 m165 m166 m167 m168 m169 m170 m171 m172 m173 m174 m175 m176 m177 m178 m179 m180 m181 m182 m183 m184 m185 m186 m187 m188 m189 m190 m191 m192 m193 m194 m195 m196 m197 m198 m199 m200 m201 m202 m203 m204 m205 m206 m207 m208 m209 m210 m211 m212 m213 m214 m215 m216 m217 m218 m219 m220 m221 m222 m223 m224 m225 m226 m227 m228 m229 m230 m231 m232 m233 m234 m235 m236 m237 m238 m239 m240 m241 m242 m243 m244 m245 m246 m247 : Value} :
    Code.wp Try.prog (tl 11 (bodyC Try.f4)) (bodyPost Try.prog Try.f4 fun e w' => e = .returned (.bool true) ∧ Below w.heap.size w w') { tmps := List.toArray (.slice Aa l0.length ca :: .slice Ab l1.length cb :: .agg #[.int .i64 key, .int .i64 val] :: m3 :: m4 :: .pointer (some ⟨b5, 0, none⟩) :: .bool false :: .int .i64 key :: .int .i64 val :: .pointer (some ⟨b9, 0, none⟩) :: m10 :: .pointer (some ⟨b11, 0, none⟩) :: .pointer (some ⟨b12, 0, none⟩) :: .pointer (some ⟨b13, 0, none⟩) :: m14 :: m15 :: m16 :: m17 :: m18 :: m19 :: m20 :: m21 :: m22 :: m23 :: m24 :: m25 :: m26 :: m27 :: m28 :: m29 :: m30 :: m31 :: m32 :: m33 :: m34 :: m35 :: m36 :: m37 :: m38 :: m39 :: m40 :: m41 :: m42 :: m43 :: m44 :: m45 :: m46 :: m47 :: m48 :: m49 :: m50 :: m51 :: m52 :: m53 :: m54 :: m55 :: m56 :: m57 :: m58 :: m59 :: m60 :: m61 :: m62 :: m63 :: m64 :: m65 :: m66 :: m67 :: m68 :: m69 :: m70 :: m71 :: m72 :: m73 :: m74 :: m75 :: m76 :: m77 :: m78 :: m79 :: m80 :: m81 :: m82 :: m83 :: m84 :: m85 :: m86 :: m87 :: m88 :: m89 :: m90 :: m91 :: m92 :: m93 :: m94 :: m95 :: m96 :: m97 :: m98 :: m99 :: m100 :: m101 :: m102 :: m103 :: m104 :: m105 :: m106 :: m107 :: m108 :: m109 :: m110 :: m111 :: m112 :: m113 :: m114 :: m115 :: m116 :: m117 :: m118 :: m119 :: m120 :: m121 :: m122 :: m123 :: m124 :: m125 :: m126 :: m127 :: m128 :: m129 :: m130 :: m131 :: m132 :: m133 :: m134 :: m135 :: m136 :: m137 :: m138 :: m139 :: m140 :: m141 :: m142 :: m143 :: m144 :: m145 :: m146 :: m147 :: m148 :: m149 :: m150 :: m151 :: m152 :: m153 :: m154 :: m155 :: m156 :: m157 :: m158 :: m159 :: m160 :: m161 :: m162 :: m163 :: m164 :: m165 :: m166 :: m167 :: m168 :: m169 :: m170 :: m171 :: m172 :: m173 :: m174 :: m175 :: m176 :: m177 :: m178 :: m179 :: m180 :: m181 :: m182 :: m183 :: m184 :: m185 :: m186 :: m187 :: m188 :: m189 :: m190 :: m191 :: m192 :: m193 :: m194 :: m195 :: m196 :: m197 :: m198 :: m199 :: m200 :: m201 :: m202 :: m203 :: m204 :: m205 :: m206 :: m207 :: m208 :: m209 :: m210 :: m211 :: m212 :: m213 :: m214 :: m215 :: m216 :: m217 :: m218 :: m219 :: m220 :: m221 :: m222 :: m223 :: m224 :: m225 :: m226 :: m227 :: m228 :: m229 :: m230 :: m231 :: m232 :: m233 :: m234 :: m235 :: m236 :: m237 :: m238 :: m239 :: m240 :: m241 :: m242 :: m243 :: m244 :: m245 :: m246 :: m247 :: []), defers := [] } x15 := by
  have hu27 := Try.underlying27
  have hu38 := Try.underlying38
  have hu34 := Try.underlying34
  have hu47 := Try.underlying47
  have hu40 := Try.underlying40
  conv => arg 2; whnf
  go_upto_region 16 with (fail)
  go_cut [132] (fun v132 wc => v132 = .bool false ∧ Aside0 (Below x15.heap.size x15 wc))
  case first =>
    have LB := LX.out.bx
    have y0 := (LB.cell 1 0 rfl).trans rfl
    have z0 := (LB.cell 3 0 rfl).trans rfl
    have y1 := (LB.cell 1 1 rfl).trans rfl
    have z1 := (LB.cell 3 1 rfl).trans rfl
    have y2 := (LB.cell 1 2 rfl).trans rfl
    have z2 := (LB.cell 3 2 rfl).trans rfl
    have y3 := (LB.cell 1 3 rfl).trans rfl
    have z3 := (LB.cell 3 3 rfl).trans rfl
    have y4 := (LB.cell 1 4 rfl).trans rfl
    have z4 := (LB.cell 3 4 rfl).trans rfl
    clear LB
    rcases PC.out with ⟨rfl, rfl, rfl⟩ | ⟨rfl, rfl, rfl, rfl⟩
    · go_wp2_with fail
      go_meet
      exact ⟨rfl, ⟨Below.refl _ _⟩⟩
    · have EQ := Aside0.mk (same_self k1 k2)
      go_wp2_with fail
      refine (call_Same.calls 1000001 1 k1 k2 0 A13 c13 ([] : List S49) 1 k1 k2 0 A11 c11 ([] : List S49) true x15 (cn _ _ _) (Nat.zero_le _) (cn _ _ _) (Nat.zero_le _) EQ.out).mono ?_
      rintro e wz ⟨rfl, hb⟩
      go_wp2_with fail
      go_meet
      exact ⟨rfl, ⟨hb⟩⟩
  case rest =>
    obtain ⟨rfl, hx⟩ := hcut
    replace LX := Aside0.mk (LX.out.below hx.out)
    clear hx PC
    go_upto_region 18 with (fail)
    rename_i KK hKK
    have HKK := Aside0.mk hKK
    clear hKK
    have LB := LX.out.bx
    have s0 := (LB.cell 0 0 rfl).trans rfl
    have s1 := (LB.cell 0 1 rfl).trans rfl
    have Z9 := Aside0.mk (show b9 < wc.heap.size ∧ w.heap.size ≤ wc.heap.size from ⟨LB.lt 0 rfl, LB.b.size⟩)
    clear LB
    go_wp2_with fail
    refine (mdo_calls 5000 (okm w b9) _ _ _ (okm w b9) _ _ _ _ _ _ _ _ _ _ _ _ _ _ _ _ _ (rb LX.out.v0) (rb LX.out.v1) P6.out).mono ?_
    rintro e w5 ⟨v0, v1, v6, rfl, V0, V1, V6, hb⟩
    obtain ⟨A8, c8, rfl⟩ := Kd.V_slice V0
    obtain ⟨A9, c9, rfl⟩ := Kd.V_slice V1
    obtain ⟨A14, c14, rfl⟩ := Kd.V_slice V6
    have X5 := Aside0.mk (LX.out.bx.below hb)
    have z0 : ∀ o, (w5.alloc o).cell? ⟨b9, 0, none⟩ = some _ := fun o => ((X5.out.alloc o).cell 0 0 rfl).trans rfl
    have z1 : ∀ o, (w5.alloc o).cell? ⟨b9, 1, none⟩ = some _ := fun o => ((X5.out.alloc o).cell 0 1 rfl).trans rfl
    have zf0 : ∀ o, (w5.alloc o).frozen? ⟨b9, 0, none⟩ = false := fun o => (X5.out.alloc o).frz 0 0 rfl
    have zf1 : ∀ o, (w5.alloc o).frozen? ⟨b9, 1, none⟩ = false := fun o => (X5.out.alloc o).frz 0 1 rfl
    have ng1 : ¬ w5.heap.size = b9 := by have := X5.out.lt 0 rfl; omega
    have ng2 : ¬ b9 = w5.heap.size := fun e => ng1 e.symm
    have U0 := Aside0.mk V0
    have U1 := Aside0.mk V1
    have U6 := Aside0.mk V6
    clear V0 V1 V6 hb s0 s1 LX
    go_wp2
    refine HKK.out _ _ ?_
    refine gen2 (Φ := fun X => KF w X b9 ((w5.heap.size, #[.int .i64 3, .int .i64 0, .int .i64 0, .int .i64 0, .slice A14 F.length c14], 34) :: (b13, #[.int .i64 1, .int .i64 key, .int .i64 bv, .int .i64 0, .slice A13 0 c13], 34) :: (b12, #[.int .i64 i0, .int .i64 0, .int .i64 0, .int .i64 0, .slice A12 0 c12], 34) :: (b11, #[.int .i64 k0, .int .i64 k1, .int .i64 k2, .int .i64 0, .slice A11 0 c11], 34) :: [(b5, #[.int .i64 key, .int .i64 val], 47)]) A8 c8 A9 c9 l2 ts2 A14 c14 F) (KF.ofA (KS.putA X5.out Z9.out U0.out U1.out U6.out rfl)) ?_
    intro x18 HX
    have LX := Aside0.mk HX
    obtain ⟨b14, hnb⟩ : ∃ b, w5.heap.size = b := ⟨_, rfl⟩
    rw [hnb] at LX ⊢
    clear HX X5 Z9 U0 U1 U6 z0 z1 zf0 zf1 ng1 ng2 hnb
    clear HKK
    exact t13 hc0 hc1 HR0 HR1 hl0 hl1 LX P7 PR PW PK PF
set_option maxHeartbeats 8000000 in
set_option maxRecDepth 100000 in
theorem t9 {l0 : List S40} {Aa : Option Addr} {ca : Nat} {l1 : List S40} {Ab : Option Addr} {cb : Nat} {key val : Int} {w : World} (hc0 : l0.length ≤ ca) (hc1 : l1.length ≤ cb) (HR0 : Aside0 (Kd.C k40 w Aa l0.length l0)) (HR1 : Aside0 (Kd.C k40 w Ab l1.length l1)) (hl0 : l0.length ≤ 60) (hl1 : l1.length ≤ 60) {b5 b9 : Nat} {A0 : Option Addr} {c0 : Nat} {A1 : Option Addr} {c1 : Nat} {b11 : Nat} {A11 : Option Addr} {c11 : Nat} {b12 : Nat} {A12 : Option Addr} {c12 : Nat} {l2 F : List S49} {ts2 ts3 : List S62} {k0 k1 k2 i0 bv : Int} {x13 : World} (LX : Aside0 (KS w x13 b9 ((b12, #[.int .i64 i0, .int .i64 0, .int .i64 0, .int .i64 0, .slice A12 0 c12], 34) :: (b11, #[.int .i64 k0, .int .i64 k1, .int .i64 k2, .int .i64 0, .slice A11 0 c11], 34) :: [(b5, #[.int .i64 key, .int .i64 val], 47)]) A0 c0 A1 c1 l2 ts2)) (P5 : Aside0 (model_State_Do.f 5000 l2 ts2 0 2 key 0 0 0 = some (l2, ts2, 1, key, bv, 0, []))) (P6 : Aside0 (model_State_Do.f 5000 l2 ts2 0 3 (-9223372036854775808) 0 9223372036854775807 1000 = some (l2, ts2, 3, 0, 0, 0, F))) (P7 : Aside0 (model_State_Do.f 5000 l2 ts2 0 9 (-9223372036854775808) 0 9223372036854775807 0 = some (l2, ts3, 0, 0, 0, 0, []))) (PR : Aside0 (R0 ts3 ⟨true, true, F, 0⟩)) (PW : Aside0 (WfS (l0.length + 7) l2 ts3)) (PK : Aside0 (lookA l2 key = (1, key, bv, 0, []))) (PF : Aside0 (F.length ≤ l0.length + 1)) (PC : Aside0 ((k0 = 4 ∧ i0 = 0 ∧ bv = val) ∨ (k0 = 1 ∧ i0 = 5 ∧ k1 = key ∧ k2 = bv))) {m3 m4 m10 m13 m14 m15 m16 m17 m18 m19 m20 m21 m22 m23 m24 m25 m26 m27 m28 m29 m30 m31 m32 m33 m34 m35 m36 m37 m38 m39 m40 m41 m42 m43 m44 m45 m46 m47 m48 m49 m50 m51 m52 m53 m54 m55 m56 m57 m58 m59 m60 m61 m62 m63 m64 m65 m66 m67 m68 m69 m70 m71 m72 m73 m74 m75 m76 m77 m78 m79 m80 m81 m82 m83 m84 m85 m86 m87 m88 m89 m90 m91 m92 m93 m94 m95 m96 m97 m98 m99 m100 m101 m102 m103 m104 m105 m106 m107 m108 m109 m110 m111 m112 m113 m114 m115 m116 m117 m118 m119 m120 m121 m122 m123 m124 m125 m126 m127 m128 m129 m130 m131 m132 m133 m134 m135 m136 m137 m138 m139 m140 m141 m142 m143 m144 m145 m146 m147 m148 m149 m150 m151 m152 m153 m154 m155 m156 m157 m158 m159 m160 m161 m162 m163 m164 m165 m166 m167 m168 m169 m170 m171 m172 m173 m174 m175 m176 m177 m178 m179 m180 m181 m182 m183 m184 m185 m186 m187 m188 m189 m190 m191 m192 m193 m194 m195 m196 m197 m198 m199 m200 m201 m202 m203 m204 m205 m206 m207 m208 m209 m210 m211 m212 m213 m214 m215 m216 m217 m218 m219 m220 m221 m222 m223 m224 m225 m226 m227 m228 m229 m230 m231 m232 m233 m234 m235 m236 m237 m238 m239 m240 m241 m242 m243 m244 m245 m246 m247 : Value} :
    Code.wp Try.prog (tl 9 (bodyC Try.f4)) (bodyPost Try.prog Try.f4 fun e w' => e = .returned (.bool true) ∧ Below w.heap.size w w') { tmps := List.toArray (.slice Aa l0.length ca :: .slice Ab l1.length cb :: .agg #[.int .i64 key, .int .i64 val] :: m3 :: m4 :: .pointer (some ⟨b5, 0, none⟩) :: .bool false :: .int .i64 key :: .int .i64 val :: .pointer (some ⟨b9, 0, none⟩) :: m10 :: .pointer (some ⟨b11, 0, none⟩) :: .pointer (some ⟨b12, 0, none⟩) :: m13 :: m14 :: m15 :: m16 :: m17 :: m18 :: m19 :: m20 :: m21 :: m22 :: m23 :: m24 :: m25 :: m26 :: m27 :: m28 :: m29 :: m30 :: m31 :: m32 :: m33 :: m34 :: m35 :: m36 :: m37 :: m38 :: m39 :: m40 :: m41 :: m42 :: m43 :: m44 :: m45 :: m46 :: m47 :: m48 :: m49 :: m50 :: m51 :: m52 :: m53 :: m54 :: m55 :: m56 :: m57 :: m58 :: m59 :: m60 :: m61 :: m62 :: m63 :: m64 :: m65 :: m66 :: m67 :: m68 :: m69 :: m70 :: m71 :: m72 :: m73 :: m74 :: m75 :: m76 :: m77 :: m78 :: m79 :: m80 :: m81 :: m82 :: m83 :: m84 :: m85 :: m86 :: m87 :: m88 :: m89 :: m90 :: m91 :: m92 :: m93 :: m94 :: m95 :: m96 :: m97 :: m98 :: m99 :: m100 :: m101 :: m102 :: m103 :: m104 :: m105 :: m106 :: m107 :: m108 :: m109 :: m110 :: m111 :: m112 :: m113 :: m114 :: m115 :: m116 :: m117 :: m118 :: m119 :: m120 :: m121 :: m122 :: m123 :: m124 :: m125 :: m126 :: m127 :: m128 :: m129 :: m130 :: m131 :: m132 :: m133 :: m134 :: m135 :: m136 :: m137 :: m138 :: m139 :: m140 :: m141 :: m142 :: m143 :: m144 :: m145 :: m146 :: m147 :: m148 :: m149 :: m150 :: m151 :: m152 :: m153 :: m154 :: m155 :: m156 :: m157 :: m158 :: m159 :: m160 :: m161 :: m162 :: m163 :: m164 :: m165 :: m166 :: m167 :: m168 :: m169 :: m170 :: m171 :: m172 :: m173 :: m174 :: m175 :: m176 :: m177 :: m178 :: m179 :: m180 :: m181 :: m182 :: m183 :: m184 :: m185 :: m186 :: m187 :: m188 :: m189 :: m190 :: m191 :: m192 :: m193 :: m194 :: m195 :: m196 :: m197 :: m198 :: m199 :: m200 :: m201 :: m202 :: m203 :: m204 :: m205 :: m206 :: m207 :: m208 :: m209 :: m210 :: m211 :: m212 :: m213 :: m214 :: m215 :: m216 :: m217 :: m218 :: m219 :: m220 :: m221 :: m222 :: m223 :: m224 :: m225 :: m226 :: m227 :: m228 :: m229 :: m230 :: m231 :: m232 :: m233 :: m234 :: m235 :: m236 :: m237 :: m238 :: m239 :: m240 :: m241 :: m242 :: m243 :: m244 :: m245 :: m246 :: m247 :: []), defers := [] } x13 := by
  have hu27 := Try.underlying27
  have hu38 := Try.underlying38
  have hu34 := Try.underlying34
  have hu47 := Try.underlying47
  have hu40 := Try.underlying40
  conv => arg 2; whnf
  go_upto_region 13 with (fail)
  go_cut [100] (fun v100 wc => v100 = .bool false ∧ Aside0 (x13 = wc))
  case first =>
    have LB := LX.out.bx
    have y0 := (LB.cell 1 0 rfl).trans rfl
    have y1 := (LB.cell 2 0 rfl).trans rfl
    clear LB
    rcases PC.out with ⟨rfl, rfl, rfl⟩ | ⟨rfl, rfl, rfl, rfl⟩
    · go_wp2_with fail
      go_meet
      exact ⟨rfl, ⟨rfl⟩⟩
    · go_wp2_with fail
      go_meet
      exact ⟨rfl, ⟨rfl⟩⟩
  case rest =>
    obtain ⟨rfl, hx⟩ := hcut
    obtain rfl := hx.out
    clear hx
    go_upto_region 15 with (fail)
    rename_i KK hKK
    have HKK := Aside0.mk hKK
    clear hKK
    have LB := LX.out.bx
    have s0 := (LB.cell 0 0 rfl).trans rfl
    have s1 := (LB.cell 0 1 rfl).trans rfl
    have Z9 := Aside0.mk (show b9 < x13.heap.size ∧ w.heap.size ≤ x13.heap.size from ⟨LB.lt 0 rfl, LB.b.size⟩)
    clear LB
    go_wp2_with fail
    refine (mdo_calls 5000 (okm w b9) _ _ _ (okm w b9) _ _ _ _ _ _ _ _ _ _ _ _ _ _ _ _ _ (rb LX.out.v0) (rb LX.out.v1) P5.out).mono ?_
    rintro e w5 ⟨v0, v1, v6, rfl, V0, V1, V6, hb⟩
    obtain ⟨A8, c8, rfl⟩ := Kd.V_slice V0
    obtain ⟨A9, c9, rfl⟩ := Kd.V_slice V1
    obtain ⟨A13, c13, rfl⟩ := Kd.V_slice V6
    have X5 := Aside0.mk (LX.out.bx.below hb)
    have z0 : ∀ o, (w5.alloc o).cell? ⟨b9, 0, none⟩ = some _ := fun o => ((X5.out.alloc o).cell 0 0 rfl).trans rfl
    have z1 : ∀ o, (w5.alloc o).cell? ⟨b9, 1, none⟩ = some _ := fun o => ((X5.out.alloc o).cell 0 1 rfl).trans rfl
    have zf0 : ∀ o, (w5.alloc o).frozen? ⟨b9, 0, none⟩ = false := fun o => (X5.out.alloc o).frz 0 0 rfl
    have zf1 : ∀ o, (w5.alloc o).frozen? ⟨b9, 1, none⟩ = false := fun o => (X5.out.alloc o).frz 0 1 rfl
    have ng1 : ¬ w5.heap.size = b9 := by have := X5.out.lt 0 rfl; omega
    have ng2 : ¬ b9 = w5.heap.size := fun e => ng1 e.symm
    have U0 := Aside0.mk V0
    have U1 := Aside0.mk V1
    have U6 := Aside0.mk V6
    clear V0 V1 V6 hb s0 s1 LX
    go_wp2
    refine HKK.out _ _ ?_
    refine gen2 (Φ := fun X => KS w X b9 ((w5.heap.size, #[.int .i64 1, .int .i64 key, .int .i64 bv, .int .i64 0, .slice A13 0 c13], 34) :: (b12, #[.int .i64 i0, .int .i64 0, .int .i64 0, .int .i64 0, .slice A12 0 c12], 34) :: (b11, #[.int .i64 k0, .int .i64 k1, .int .i64 k2, .int .i64 0, .slice A11 0 c11], 34) :: [(b5, #[.int .i64 key, .int .i64 val], 47)]) A8 c8 A9 c9 l2 ts2) (KS.putA X5.out Z9.out U0.out U1.out U6.out rfl).1 ?_
    intro x15 HX
    have LX := Aside0.mk HX
    obtain ⟨b13, hnb⟩ : ∃ b, w5.heap.size = b := ⟨_, rfl⟩
    rw [hnb] at LX ⊢
    clear HX X5 Z9 U0 U1 U6 z0 z1 zf0 zf1 ng1 ng2 hnb
    clear HKK
    exact t11 hc0 hc1 HR0 HR1 hl0 hl1 LX P6 P7 PR PW PK PF PC
set_option maxHeartbeats 8000000 in
set_option maxRecDepth 100000 in
theorem keeps_walk (l0 : List S40) (Aa : Option Addr) (ca : Nat) (l1 : List S40) (Ab : Option Addr) (cb : Nat) (key val : Int) (w : World) (hr0 : Kd.C k40 w Aa l0.length l0) (hc0 : l0.length ≤ ca) (hr1 : Kd.C k40 w Ab l1.length l1) (hc1 : l1.length ≤ cb) :
    Calls Try.prog 4 #[.slice Aa l0.length ca, .slice Ab l1.length cb, .agg #[.int .i64 key, .int .i64 val]] w fun e w' => e = .returned (.bool true) ∧ Below w.heap.size w w' := by
  have hu27 := Try.underlying27
  have hu38 := Try.underlying38
  have hu34 := Try.underlying34
  have hu47 := Try.underlying47
  have hu40 := Try.underlying40
  have HR0 := Aside0.mk hr0
  have HR1 := Aside0.mk hr1
  have NW := Aside0.mk (fun W => new_calls 3 W)
  have WF := Aside0.mk (start_wf 3)
  have L3 := Aside0.mk (start_len 3)
  generalize List.replicate (sizeN 3) z62 = ts at NW WF L3
  generalize ([] : List S49) = l at NW WF
  clear hr0 hr1
  go_enter Try.func4, Try.ntmps4
  go_upto_region 1 with (fail)
  refine gen2 (Φ := fun X => Bxs w X [(w.heap.size, #[.int .i64 key, .int .i64 val], 47)]) ((Bxs.nil w).box _ 47 rfl) ?_
  intro x1 M
  have M1 := Aside0.mk M
  obtain ⟨b5, hb5⟩ : ∃ b, w.heap.size = b := ⟨_, rfl⟩
  rw [hb5] at M M1 ⊢
  have E5 := Aside0.mk hb5
  clear hb5
  have y0 := (M.cell 0 0 rfl).trans rfl
  have y1 := (M.cell 0 1 rfl).trans rfl
  clear M
  go_region
  have M2 := Aside0.mk M1.out.drew
  clear M1 y0 y1
  generalize x1.drew = x2 at M2 ⊢
  by_cases hlen : l0.length ≤ 60 ∧ l1.length ≤ 60
  · obtain ⟨hl0, hl1⟩ := hlen
    have dl0 : decide ((l0.length : Int) > 60) = false := decide_eq_false (by omega)
    have dl0b : decide (60 < l0.length) = false := decide_eq_false (by omega)
    have dl1 : decide ((l1.length : Int) > 60) = false := decide_eq_false (by omega)
    have dl1b : decide (60 < l1.length) = false := decide_eq_false (by omega)
    go_wp2_with fail
    refine (NW.out _).mono ?_
    rintro e w3 ⟨v0, v1, rfl, V0, V1, hb⟩
    obtain ⟨A0, c0, rfl⟩ := Kd.V_slice V0
    obtain ⟨A1, c1, rfl⟩ := Kd.V_slice V1
    have N0 := Aside0.mk (Kd.V_bound V0)
    have N1 := Aside0.mk (Kd.V_bound V1)
    have M3 := Aside0.mk (M2.out.below hb)
    have Z3 := Aside0.mk (show w.heap.size ≤ x2.heap.size from M2.out.b.size)
    clear V0 V1 hb M2 NW dl0 dl0b dl1 dl1b
    go_upto_region 5 with (fail)
    refine gen2 (Φ := fun X => KS w X w3.heap.size [(b5, #[.int .i64 key, .int .i64 val], 47)] A0 c0 A1 c1 l ts) ?_ ?_
    · refine ⟨M3.out.box _ 27 rfl, ?_, ?_⟩
      · exact Kd.V_mono (rb (Kd.V_alloc N0.out _)) (fun k hk => ⟨by have := hk.1; have := Z3.out; omega, by have := hk.2; omega⟩)
      · exact Kd.V_mono (rb (Kd.V_alloc N1.out _)) (fun k hk => ⟨by have := hk.1; have := Z3.out; omega, by have := hk.2; omega⟩)
    intro x4 HX
    have LX := Aside0.mk HX
    obtain ⟨b9, hb9⟩ : ∃ b, w3.heap.size = b := ⟨_, rfl⟩
    rw [hb9] at LX ⊢
    clear HX N0 N1 M3 Z3 hb9
    go_wp2
    go_loopg [10] l0.length (fun kx s10 wr => ∃ (j : Nat) (A0 : Option Addr) (c0 : Nat) (A1 : Option Addr) (c1 : Nat) (l : List S49) (ts : List S62), s10 = .int .i64 j ∧ j + kx = l0.length ∧ Aside0 (KS w wr b9 [(b5, #[.int .i64 key, .int .i64 val], 47)] A0 c0 A1 c1 l ts) ∧ Aside0 (WfS j l ts) ∧ Aside0 (ts.length = 3))
    case atStart => exact ⟨0, A0, c0, A1, c1, l, ts, rfl, by omega, LX, WF, L3⟩
    case round =>
      clear LX WF L3
      obtain ⟨j, A0, c0, A1, c1, l, ts, rfl, hj, LX, WF, L3⟩ := hrel
      by_cases hlt : j < l0.length
      · have q1 : (j : Int) < (l0.length : Int) := by omega
        have LB := LX.out.bx
        obtain ⟨ad, Ay, cy, rfl, p0, p1, p2, p3, p4, p5, _, _, _, _, _, _, _⟩ := at_T40 HR0.out (j : Int) (by omega) (by omega)
        have erd : rd_T40 l0 (j : Int) = l0[j] := by unfold rd_T40; rw [Int.toNat_natCast]; simp [List.getD, hlt]
        rw [erd, Int.toNat_natCast] at p0 p1 p2 p3 p4 p5
        generalize l0[j] = y at p0 p1 p2 p3 p4 p5
        replace p0 := cell_below LB.b p0
        replace p1 := cell_below LB.b p1
        replace p2 := cell_below LB.b p2
        replace p3 := cell_below LB.b p3
        replace p4 := cell_below LB.b p4
        replace p5 := cell_below LB.b p5
        have s0 := (LB.cell 0 0 rfl).trans rfl
        have s1 := (LB.cell 0 1 rfl).trans rfl
        obtain ⟨⟨g1, g2, g3, g4, g5, g6, g7⟩, hd⟩ : ∃ r, model_State_Do.f 5000 l ts y.f0 y.f1.f0 y.f1.f1 y.f1.f2 y.f1.f3 y.f1.f4 = some r := ⟨_, do_eq WF.out (by omega) _ _ _ _ _ _⟩
        have W2 := do_wf WF.out (by omega) y.f0 y.f1.f0 y.f1.f1 y.f1.f2 y.f1.f3 y.f1.f4
        have K2 := do_len l ts y.f0 y.f1.f0 y.f1.f1 y.f1.f2 y.f1.f3 y.f1.f4
        have hd2 := hd
        rw [do_eq WF.out (by omega)] at hd2
        rw [Option.some.inj hd2] at W2 K2
        simp only at W2 K2
        have WF2 := Aside0.mk W2
        have L32 := Aside0.mk (K2.trans L3.out)
        have DD := Aside0.mk hd
        have CW := Aside0.mk (fun W (hb : Below wr.heap.size wr W) => mdo_calls 5000 (okm w b9) A0 c0 l (okm w b9) A1 c1 ts _ _ _ _ _ _ _ _ _ _ _ _ _ W (rb (Kd.V_below LX.out.v0 hb)) (rb (Kd.V_below LX.out.v1 hb)) DD.out)
        have Z9 := Aside0.mk (show b9 < wr.heap.size ∧ w.heap.size ≤ wr.heap.size from ⟨LB.lt 0 rfl, LB.b.size⟩)
        clear hd hd2 W2 K2 LB erd
        go_upto_region 8 with (fail)
        go_region_law (go_simp; go_at_call 10; refine (CW.out _ (below_drew1 (Below.refl _ _))).mono ?_; rintro e w5 ⟨v0, v1, v6, rfl, V0, V1, V6, hb⟩; obtain ⟨A8, c8, rfl⟩ := Kd.V_slice V0; obtain ⟨A9, c9, rfl⟩ := Kd.V_slice V1; obtain ⟨A6, c6, rfl⟩ := Kd.V_slice V6; have X5 := Aside0.mk (LX.out.bx.below (below_then (below_drew1 (Below.refl wr.heap.size wr)) (Nat.le_refl _) hb)); have U0 := Aside0.mk V0; have U1 := Aside0.mk V1; have z0 := (X5.out.cell 0 0 rfl).trans rfl; have z1 := (X5.out.cell 0 1 rfl).trans rfl; have zf0 := X5.out.frz 0 0 rfl; have zf1 := X5.out.frz 0 1 rfl; clear V0 V1 V6 hb)
        all_goals have KN := Aside0.mk (KS.put X5.out Z9.out U0.out U1.out)
        all_goals clear z0 z1 zf0 zf1 X5 U0 U1
        all_goals go_wp2
        all_goals go_roundg (l0.length - (j + 1))
        all_goals try (exact (show l0.length - (j + 1) < _ by omega))
        all_goals exact ⟨j + 1, A8, c8, A9, c9, g1, g2, by go_num, by omega, KN, WF2, L32⟩
      · obtain rfl : j = l0.length := by omega
        have q1 : ¬ (l0.length : Int) < (l0.length : Int) := by omega
        obtain ⟨lc, tsc, a3, a4, a5, a6, a7, ts2, b3, b4, b5_, b6, b7, k0, k1, k2, l2, i0, bv, F, ts3, D1, D2, D3, D4, D5, D6, D7, hR0, hWF, hLk, hFl, hcase⟩ := keeps_chain WF.out (by omega) L3.out key val (lo := -9223372036854775808) (hi := 9223372036854775807) (by decide)
        have P1 := Aside0.mk D1
        have P2 := Aside0.mk D2
        have P3 := Aside0.mk D3
        have P4 := Aside0.mk D4
        have P5 := Aside0.mk D5
        have P6 := Aside0.mk D6
        have P7 := Aside0.mk D7
        have PR := Aside0.mk hR0
        have PW := Aside0.mk hWF
        have PK := Aside0.mk hLk
        have PF := Aside0.mk hFl
        have PC := Aside0.mk hcase
        clear D1 D2 D3 D4 D5 D6 D7 hR0 hWF hLk hFl hcase WF L3
        have LB := LX.out.bx
        have s0 := (LB.cell 0 0 rfl).trans rfl
        have s1 := (LB.cell 0 1 rfl).trans rfl
        have Z9 := Aside0.mk (show b9 < wr.heap.size ∧ w.heap.size ≤ wr.heap.size from ⟨LB.lt 0 rfl, LB.b.size⟩)
        clear LB
        go_wp2_with fail
        refine (mdo_calls 5000 (okm w b9) A0 c0 l (okm w b9) A1 c1 ts _ _ _ _ _ _ _ _ _ _ _ _ _ _ (rb LX.out.v0) (rb LX.out.v1) P1.out).mono ?_
        rintro e w5 ⟨v0, v1, v6, rfl, V0, V1, V6, hb⟩
        obtain ⟨A8, c8, rfl⟩ := Kd.V_slice V0
        obtain ⟨A9, c9, rfl⟩ := Kd.V_slice V1
        obtain ⟨A6, c6, rfl⟩ := Kd.V_slice V6
        have X5 := Aside0.mk (LX.out.bx.below hb)
        have KN := Aside0.mk (KS.put X5.out Z9.out V0 V1)
        have z0 := (X5.out.cell 0 0 rfl).trans rfl
        have z1 := (X5.out.cell 0 1 rfl).trans rfl
        have zf0 := X5.out.frz 0 0 rfl
        have zf1 := X5.out.frz 0 1 rfl
        clear V0 V1 V6 hb s0 s1 LX
        go_upto_region 10 with (fail)
        refine gen2 (Φ := fun X => KS w X b9 [(b5, #[.int .i64 key, .int .i64 val], 47)] A8 c8 A9 c9 lc tsc) KN.out ?_
        intro x10 HX
        have LX := Aside0.mk HX
        clear HX KN X5 Z9 z0 z1 zf0 zf1
        have LB := LX.out.bx
        have s0 := (LB.cell 0 0 rfl).trans rfl
        have s1 := (LB.cell 0 1 rfl).trans rfl
        have Z9 := Aside0.mk (show b9 < x10.heap.size ∧ w.heap.size ≤ x10.heap.size from ⟨LB.lt 0 rfl, LB.b.size⟩)
        clear LB
        go_wp2_with fail
        refine (mdo_calls 5000 (okm w b9) _ _ _ (okm w b9) _ _ _ _ _ _ _ _ _ _ _ _ _ _ _ _ _ (rb LX.out.v0) (rb LX.out.v1) P2.out).mono ?_
        rintro e w5 ⟨v0, v1, v6, rfl, V0, V1, V6, hb⟩
        obtain ⟨A8, c8, rfl⟩ := Kd.V_slice V0
        obtain ⟨A9, c9, rfl⟩ := Kd.V_slice V1
        obtain ⟨A6, c6, rfl⟩ := Kd.V_slice V6
        have X5 := Aside0.mk (LX.out.bx.below hb)
        have KN := Aside0.mk (KS.put X5.out Z9.out V0 V1)
        have z0 := (X5.out.cell 0 0 rfl).trans rfl
        have z1 := (X5.out.cell 0 1 rfl).trans rfl
        have zf0 := X5.out.frz 0 0 rfl
        have zf1 := X5.out.frz 0 1 rfl
        clear V0 V1 V6 hb s0 s1 LX
        go_upto_region 11 with (fail)
        refine gen2 (Φ := fun X => KS w X b9 [(b5, #[.int .i64 key, .int .i64 val], 47)] A8 c8 A9 c9 l ts2) KN.out ?_
        intro x11 HX
        have LX := Aside0.mk HX
        clear HX KN X5 Z9 z0 z1 zf0 zf1
        have LB := LX.out.bx
        have s0 := (LB.cell 0 0 rfl).trans rfl
        have s1 := (LB.cell 0 1 rfl).trans rfl
        have Z9 := Aside0.mk (show b9 < x11.heap.size ∧ w.heap.size ≤ x11.heap.size from ⟨LB.lt 0 rfl, LB.b.size⟩)
        clear LB
        go_wp2_with fail
        refine (mdo_calls 5000 (okm w b9) _ _ _ (okm w b9) _ _ _ _ _ _ _ _ _ _ _ _ _ _ _ _ _ (rb LX.out.v0) (rb LX.out.v1) P3.out).mono ?_
        rintro e w5 ⟨v0, v1, v6, rfl, V0, V1, V6, hb⟩
        obtain ⟨A8, c8, rfl⟩ := Kd.V_slice V0
        obtain ⟨A9, c9, rfl⟩ := Kd.V_slice V1
        obtain ⟨A11, c11, rfl⟩ := Kd.V_slice V6
        have X5 := Aside0.mk (LX.out.bx.below hb)
        have z0 : ∀ o, (w5.alloc o).cell? ⟨b9, 0, none⟩ = some _ := fun o => ((X5.out.alloc o).cell 0 0 rfl).trans rfl
        have z1 : ∀ o, (w5.alloc o).cell? ⟨b9, 1, none⟩ = some _ := fun o => ((X5.out.alloc o).cell 0 1 rfl).trans rfl
        have zf0 : ∀ o, (w5.alloc o).frozen? ⟨b9, 0, none⟩ = false := fun o => (X5.out.alloc o).frz 0 0 rfl
        have zf1 : ∀ o, (w5.alloc o).frozen? ⟨b9, 1, none⟩ = false := fun o => (X5.out.alloc o).frz 0 1 rfl
        have ng1 : ¬ w5.heap.size = b9 := by have := X5.out.lt 0 rfl; omega
        have ng2 : ¬ b9 = w5.heap.size := fun e => ng1 e.symm
        have U0 := Aside0.mk V0
        have U1 := Aside0.mk V1
        have U6 := Aside0.mk V6
        clear V0 V1 V6 hb s0 s1 LX
        go_upto_region 12 with (fail)
        refine gen2 (Φ := fun X => KS w X b9 ((w5.heap.size, #[.int .i64 k0, .int .i64 k1, .int .i64 k2, .int .i64 0, .slice A11 0 c11], 34) :: [(b5, #[.int .i64 key, .int .i64 val], 47)]) A8 c8 A9 c9 l ts2) (KS.putA X5.out Z9.out U0.out U1.out U6.out rfl).1 ?_
        intro x12 HX
        have LX := Aside0.mk HX
        obtain ⟨b11, hnb⟩ : ∃ b, w5.heap.size = b := ⟨_, rfl⟩
        rw [hnb] at LX ⊢
        clear HX X5 Z9 U0 U1 U6 z0 z1 zf0 zf1 ng1 ng2 hnb
        rename_i KK hKK
        have HKK := Aside0.mk hKK
        clear hKK
        have LB := LX.out.bx
        have s0 := (LB.cell 0 0 rfl).trans rfl
        have s1 := (LB.cell 0 1 rfl).trans rfl
        have Z9 := Aside0.mk (show b9 < x12.heap.size ∧ w.heap.size ≤ x12.heap.size from ⟨LB.lt 0 rfl, LB.b.size⟩)
        clear LB
        go_wp2_with fail
        refine (mdo_calls 5000 (okm w b9) _ _ _ (okm w b9) _ _ _ _ _ _ _ _ _ _ _ _ _ _ _ _ _ (rb LX.out.v0) (rb LX.out.v1) P4.out).mono ?_
        rintro e w5 ⟨v0, v1, v6, rfl, V0, V1, V6, hb⟩
        obtain ⟨A8, c8, rfl⟩ := Kd.V_slice V0
        obtain ⟨A9, c9, rfl⟩ := Kd.V_slice V1
        obtain ⟨A12, c12, rfl⟩ := Kd.V_slice V6
        have X5 := Aside0.mk (LX.out.bx.below hb)
        have z0 : ∀ o, (w5.alloc o).cell? ⟨b9, 0, none⟩ = some _ := fun o => ((X5.out.alloc o).cell 0 0 rfl).trans rfl
        have z1 : ∀ o, (w5.alloc o).cell? ⟨b9, 1, none⟩ = some _ := fun o => ((X5.out.alloc o).cell 0 1 rfl).trans rfl
        have zf0 : ∀ o, (w5.alloc o).frozen? ⟨b9, 0, none⟩ = false := fun o => (X5.out.alloc o).frz 0 0 rfl
        have zf1 : ∀ o, (w5.alloc o).frozen? ⟨b9, 1, none⟩ = false := fun o => (X5.out.alloc o).frz 0 1 rfl
        have ng1 : ¬ w5.heap.size = b9 := by have := X5.out.lt 0 rfl; omega
        have ng2 : ¬ b9 = w5.heap.size := fun e => ng1 e.symm
        have U0 := Aside0.mk V0
        have U1 := Aside0.mk V1
        have U6 := Aside0.mk V6
        clear V0 V1 V6 hb s0 s1 LX
        go_wp2
        refine HKK.out _ _ ?_
        refine gen2 (Φ := fun X => KS w X b9 ((w5.heap.size, #[.int .i64 i0, .int .i64 0, .int .i64 0, .int .i64 0, .slice A12 0 c12], 34) :: (b11, #[.int .i64 k0, .int .i64 k1, .int .i64 k2, .int .i64 0, .slice A11 0 c11], 34) :: [(b5, #[.int .i64 key, .int .i64 val], 47)]) A8 c8 A9 c9 l2 ts2) (KS.putA X5.out Z9.out U0.out U1.out U6.out rfl).1 ?_
        intro x13 HX
        have LX := Aside0.mk HX
        obtain ⟨b12, hnb⟩ : ∃ b, w5.heap.size = b := ⟨_, rfl⟩
        rw [hnb] at LX ⊢
        clear HX X5 Z9 U0 U1 U6 z0 z1 zf0 zf1 ng1 ng2 hnb
        clear HKK
        exact t9 hc0 hc1 HR0 HR1 hl0 hl1 LX P5 P6 P7 PR PW PK PF PC
  · by_cases h0 : l0.length ≤ 60
    · have dl0 : decide ((l0.length : Int) > 60) = false := decide_eq_false (by omega)
      have dl0b : decide (60 < l0.length) = false := decide_eq_false (by omega)
      have dl1 : decide ((l1.length : Int) > 60) = true := decide_eq_true (by omega)
      have dl1b : decide (60 < l1.length) = true := decide_eq_true (by omega)
      clear hlen h0
      go_wp2_with fail
      refine (lives_true _).mono ?_
      rintro e w9 ⟨rfl, hb⟩
      go_wp2
      go_ret
      exact ⟨rfl, below_then M2.out.b M2.out.b.size hb⟩
    · have dl0 : decide ((l0.length : Int) > 60) = true := decide_eq_true (by omega)
      have dl0b : decide (60 < l0.length) = true := decide_eq_true (by omega)
      clear hlen h0
      go_wp2_with fail
      refine (lives_true _).mono ?_
      rintro e w9 ⟨rfl, hb⟩
      go_wp2
      go_ret
      exact ⟨rfl, below_then M2.out.b M2.out.b.size hb⟩
end Go.Proofs.Ytkkneaefjahihaa.Keep
