/-
 The walk of PressExamples: the law returns true.
-/
import Derived.Test.YtfplipbkjglmhaaDoorExc
import Derived.Test.YtfplipbkjglmhaaDoorAliv
namespace Go.Proofs.YtfplipbkjglmhaaDoor
open Go.RowKit
set_option linter.unusedVariables false
set_option linter.unusedSimpArgs false
theorem cel_at'{w:World}{b j:Nat}{cs:Array Value}{t:TypeId}{u:Value}(h:w.heap[b]? = some (.cells cs t (0,0)))(hu:cs[j]? = some u):w.cell? ⟨b,j,none⟩=some u:=by simp[World.cell?,h,hu]
theorem rd_nil{w:World}{size:Nat}(A:Option Addr):Reads w w.heap.size size A 0 []:=⟨by simp,fun h=>absurd h (by omega)⟩
set_option maxRecDepth 100000 in
set_option maxHeartbeats 60000000 in
theorem law_examples(w:World)(hL:Laid w):Calls Tryd.prog 13 #[] w fun e w'=>e = .returned (.bool true)∧Below w.heap.size w w':=by
 have gEq:Tryd.prog.eqGuardType Tryd.prog.depth 36=false:=by kernel_rfl
 have gEq2:Tryd.prog.eqGuardType Tryd.prog.depth 68=false:=by kernel_rfl
 have HF:=Lib.hid (fun y (hy:Below w.heap.size w y)=>And.intro (hL.below hy hL.2.2.2) hy);clear hL
 go_enter Tryd.func13,Tryd.ntmps13
 go_wp2_with fail
 refine(alive_any w (HF.out w (Below.refl _ _)).1).mono ?_;rintro e z0 ⟨rfl,hb⟩;replace HF:=Lib.hid (fun y (hy:Below z0.heap.size z0 y)=>HF.out y (below_of hb hy));clear hb;go_wp2_with fail
 refine(mill_rd z0).mono ?_;rintro e z1 ⟨⟨A,A2,c2,rfl,hr,ho⟩,hb⟩;have HM:=Lib.hid (fun y (hy:Below z1.heap.size z1 y)=>And.intro ((hr.below hy).more hy.size) ((ho.below hy).more hy.size));replace HF:=Lib.hid (fun y (hy:Below z1.heap.size z1 y)=>HF.out y (below_of hb hy));clear hb hr ho;go_wp2_with fail
 refine(x1 A A2 c2 z1 (HM.out z1 (Below.refl _ _)).1 (HM.out z1 (Below.refl _ _)).2 (HF.out z1 (Below.refl _ _)).1).mono ?_;rintro e z2 ⟨rfl,hb⟩;replace HF:=Lib.hid (fun y (hy:Below z2.heap.size z2 y)=>HF.out y (below_of hb hy));clear hb HM;obtain⟨z3,hz3_⟩:∃y,y=z2.alloc (.cells #[.int .i64 40,.int .i64 90] 36):=⟨_,rfl⟩;have hb:Below z2.heap.size z2 z3:=by rw[hz3_];exact(Below.refl _ _).alloc (Nat.le_refl _) _
 have ho_:z3.heap[z2.heap.size]? = some (.cells #[.int .i64 40,.int .i64 90] 36 (0,0)):=by rw[hz3_];exact heap_alloc_new _ _
 replace HF:=Lib.hid (fun y (hy:Below z3.heap.size z3 y)=>And.intro (keepO hy ho_) (HF.out y (below_of hb hy)));have hz3:=Lib.hid hz3_;clear hb ho_ hz3_;go_wp2_with fail
 rw[←hz3.out];clear hz3;refine(mill_rd z3).mono ?_;rintro e z4 ⟨⟨A,A2,c2,rfl,hr,ho⟩,hb⟩;have HM:=Lib.hid (fun y (hy:Below z4.heap.size z4 y)=>And.intro ((hr.below hy).more hy.size) ((ho.below hy).more hy.size));replace HF:=Lib.hid (fun y (hy:Below z4.heap.size z4 y)=>HF.out y (below_of hb hy));clear hb hr ho;go_wp2_with fail
 refine(x2 A A2 c2 z4 (HM.out z4 (Below.refl _ _)).1 (HM.out z4 (Below.refl _ _)).2 (HF.out z4 (Below.refl _ _)).2.1).mono ?_;rintro e z5 ⟨rfl,hb⟩;replace HF:=Lib.hid (fun y (hy:Below z5.heap.size z5 y)=>HF.out y (below_of hb hy));clear hb HM;obtain⟨z6,hz6_⟩:∃y,y=z5.alloc (.cells #[.int .i64 490,.int .i64 530] 36):=⟨_,rfl⟩;have hb:Below z5.heap.size z5 z6:=by rw[hz6_];exact(Below.refl _ _).alloc (Nat.le_refl _) _
 have ho_:z6.heap[z5.heap.size]? = some (.cells #[.int .i64 490,.int .i64 530] 36 (0,0)):=by rw[hz6_];exact heap_alloc_new _ _
 replace HF:=Lib.hid (fun y (hy:Below z6.heap.size z6 y)=>And.intro (keepO hy ho_) (HF.out y (below_of hb hy)));have hz6:=Lib.hid hz6_;clear hb ho_ hz6_;go_wp2_with fail
 rw[←hz6.out];clear hz6;refine(mill_rd z6).mono ?_;rintro e z7 ⟨⟨A,A2,c2,rfl,hr,ho⟩,hb⟩;have HM:=Lib.hid (fun y (hy:Below z7.heap.size z7 y)=>And.intro ((hr.below hy).more hy.size) ((ho.below hy).more hy.size));replace HF:=Lib.hid (fun y (hy:Below z7.heap.size z7 y)=>HF.out y (below_of hb hy));clear hb hr ho;go_wp2_with fail
 refine(x3 A A2 c2 z7 (HM.out z7 (Below.refl _ _)).1 (HM.out z7 (Below.refl _ _)).2 (HF.out z7 (Below.refl _ _)).2.2.1).mono ?_;rintro e z8 ⟨rfl,hb⟩;replace HF:=Lib.hid (fun y (hy:Below z8.heap.size z8 y)=>HF.out y (below_of hb hy));clear hb HM;obtain⟨z9,hz9_⟩:∃y,y=z8.alloc (.cells #[.int .i64 870,.int .i64 920] 36):=⟨_,rfl⟩;have hb:Below z8.heap.size z8 z9:=by rw[hz9_];exact(Below.refl _ _).alloc (Nat.le_refl _) _
 have ho_:z9.heap[z8.heap.size]? = some (.cells #[.int .i64 870,.int .i64 920] 36 (0,0)):=by rw[hz9_];exact heap_alloc_new _ _
 replace HF:=Lib.hid (fun y (hy:Below z9.heap.size z9 y)=>And.intro (keepO hy ho_) (HF.out y (below_of hb hy)));have hz9:=Lib.hid hz9_;clear hb ho_ hz9_;go_wp2_with fail
 rw[←hz9.out];clear hz9;refine(mill_rd z9).mono ?_;rintro e z10 ⟨⟨A,A2,c2,rfl,hr,ho⟩,hb⟩;have HM:=Lib.hid (fun y (hy:Below z10.heap.size z10 y)=>And.intro ((hr.below hy).more hy.size) ((ho.below hy).more hy.size));replace HF:=Lib.hid (fun y (hy:Below z10.heap.size z10 y)=>HF.out y (below_of hb hy));clear hb hr ho;go_wp2_with fail
 refine(x4 A A2 c2 z10 (HM.out z10 (Below.refl _ _)).1 (HM.out z10 (Below.refl _ _)).2 (HF.out z10 (Below.refl _ _)).2.2.2.1).mono ?_;rintro e z11 ⟨rfl,hb⟩;replace HF:=Lib.hid (fun y (hy:Below z11.heap.size z11 y)=>HF.out y (below_of hb hy));clear hb HM;obtain⟨z12,hz12_⟩:∃y,y=(z11.alloc (.cells #[.int .i64 29,.int .i64 100] 68)).alloc (.cells #[.int .i64 31,.int .i64 100] 68):=⟨_,rfl⟩;have hb:Below z11.heap.size z11 z12:=by rw[hz12_];exact((Below.refl _ _).alloc (Nat.le_refl _) _).alloc (by simp) _
 have ho_:z12.heap[z11.heap.size]? = some (.cells #[.int .i64 29,.int .i64 100] 68 (0,0)):=by rw[hz12_,heap_lt_alloc' _ _ _ (by simp)];exact heap_alloc_new _ _
 have ho2_:z12.heap[z11.heap.size+1]? = some (.cells #[.int .i64 31,.int .i64 100] 68 (0,0)):=by rw[hz12_];have:=heap_alloc_new (z11.alloc (.cells #[.int .i64 29,.int .i64 100] 68)) (.cells #[.int .i64 31,.int .i64 100] 68);simpa using this
 replace HF:=Lib.hid (fun y (hy:Below z12.heap.size z12 y)=>And.intro (keepO hy ho_) (HF.out y (below_of hb hy)));replace HF:=Lib.hid (fun y (hy:Below z12.heap.size z12 y)=>And.intro (keepO hy ho2_) (HF.out y hy));have hz12:=Lib.hid hz12_;clear hb ho_ ho2_ hz12_;go_wp2_with fail
 rw[←hz12.out];clear hz12;refine(mill_rd z12).mono ?_;rintro e z13 ⟨⟨A,A2,c2,rfl,hr,ho⟩,hb⟩;have HM:=Lib.hid (fun y (hy:Below z13.heap.size z13 y)=>And.intro ((hr.below hy).more hy.size) ((ho.below hy).more hy.size));replace HF:=Lib.hid (fun y (hy:Below z13.heap.size z13 y)=>HF.out y (below_of hb hy));clear hb hr ho;go_wp2_with fail
 refine(part_mk 3 10 z13).mono ?_;rintro e z14 ⟨rfl,hb⟩;replace HM:=Lib.hid (fun y (hy:Below z14.heap.size z14 y)=>HM.out y (below_of hb hy));replace HF:=Lib.hid (fun y (hy:Below z14.heap.size z14 y)=>HF.out y (below_of hb hy));clear hb;go_wp2_with fail
 refine(x5 A A2 c2 z14 (HM.out z14 (Below.refl _ _)).1 (HM.out z14 (Below.refl _ _)).2 (HF.out z14 (Below.refl _ _)).2.2.2.2.2.1).mono ?_;rintro e z15 ⟨rfl,hb⟩;replace HF:=Lib.hid (fun y (hy:Below z15.heap.size z15 y)=>HF.out y (below_of hb hy));clear hb HM;go_wp2_with fail
 refine(mill_rd z15).mono ?_;rintro e z16 ⟨⟨A,A2,c2,rfl,hr,ho⟩,hb⟩;have HM:=Lib.hid (fun y (hy:Below z16.heap.size z16 y)=>And.intro ((hr.below hy).more hy.size) ((ho.below hy).more hy.size));replace HF:=Lib.hid (fun y (hy:Below z16.heap.size z16 y)=>HF.out y (below_of hb hy));clear hb hr ho;go_wp2_with fail
 refine(part_mk 8 25 z16).mono ?_;rintro e z17 ⟨rfl,hb⟩;replace HM:=Lib.hid (fun y (hy:Below z17.heap.size z17 y)=>HM.out y (below_of hb hy));replace HF:=Lib.hid (fun y (hy:Below z17.heap.size z17 y)=>HF.out y (below_of hb hy));clear hb;go_wp2_with fail
 refine(x6 A A2 c2 z17 (HM.out z17 (Below.refl _ _)).1 (HM.out z17 (Below.refl _ _)).2 (HF.out z17 (Below.refl _ _)).2.2.2.2.2.1).mono ?_;rintro e z18 ⟨rfl,hb⟩;replace HF:=Lib.hid (fun y (hy:Below z18.heap.size z18 y)=>HF.out y (below_of hb hy));clear hb HM;go_wp2_with fail
 refine(mill_rd z18).mono ?_;rintro e z19 ⟨⟨A,A2,c2,rfl,hr,ho⟩,hb⟩;have HM:=Lib.hid (fun y (hy:Below z19.heap.size z19 y)=>And.intro ((hr.below hy).more hy.size) ((ho.below hy).more hy.size));replace HF:=Lib.hid (fun y (hy:Below z19.heap.size z19 y)=>HF.out y (below_of hb hy));clear hb hr ho;go_wp2_with fail
 refine(x7 A A2 c2 z19 (HM.out z19 (Below.refl _ _)).1 (HM.out z19 (Below.refl _ _)).2 (HF.out z19 (Below.refl _ _)).2.2.2.2.2.1).mono ?_;rintro e z20 ⟨⟨A7,m7,c7,rfl,hm7,hq⟩,hb⟩;replace HF:=Lib.hid (fun y (hy:Below z20.heap.size z20 y)=>And.intro ((hq.below hy).more hy.size) (HF.out y (below_of hb hy)));clear hb HM hq;go_wp2_with fail
 refine(mill_rd z20).mono ?_;rintro e z21 ⟨⟨A,A2,c2,rfl,hr,ho⟩,hb⟩;have HM:=Lib.hid (fun y (hy:Below z21.heap.size z21 y)=>And.intro ((hr.below hy).more hy.size) ((ho.below hy).more hy.size));replace HF:=Lib.hid (fun y (hy:Below z21.heap.size z21 y)=>HF.out y (below_of hb hy));clear hb hr ho;go_wp2_with fail
 refine(x8 A A2 c2 z21 (HM.out z21 (Below.refl _ _)).1 (HM.out z21 (Below.refl _ _)).2 (HF.out z21 (Below.refl _ _)).2.2.2.2.2.2.1).mono ?_;rintro e z22 ⟨⟨A8,c8,rfl⟩,hb⟩;replace HF:=Lib.hid (fun y (hy:Below z22.heap.size z22 y)=>HF.out y (below_of hb hy));clear hb HM;go_wp2_with fail
 refine(mill_rd z22).mono ?_;rintro e z23 ⟨⟨A,A2,c2,rfl,hr,ho⟩,hb⟩;have HM:=Lib.hid (fun y (hy:Below z23.heap.size z23 y)=>And.intro ((hr.below hy).more hy.size) ((ho.below hy).more hy.size));replace HF:=Lib.hid (fun y (hy:Below z23.heap.size z23 y)=>HF.out y (below_of hb hy));clear hb hr ho;go_wp2_with fail
 refine(x9 A A2 c2 z23 (HM.out z23 (Below.refl _ _)).1 (HM.out z23 (Below.refl _ _)).2 (HF.out z23 (Below.refl _ _)).2.2.2.2.2.2.1).mono ?_;rintro e z24 ⟨⟨A9,c9,rfl⟩,hb⟩;replace HF:=Lib.hid (fun y (hy:Below z24.heap.size z24 y)=>HF.out y (below_of hb hy));clear hb HM;go_wp2_with fail
 obtain⟨S,hSd⟩:∃S:World→Prop,S=fun z=>Below z24.heap.size z24 z:=⟨_,rfl⟩;have HSS:=Lib.hid (fun z z' (h:S z) (hb:Below z.heap.size z z')=>(by rw[hSd] at h ⊢;exact below_of h hb:S z'));have HP:=Lib.hid (fun z (h:S z)=>(by rw[hSd] at h;exact h:Below z24.heap.size z24 z));have hS0:S z24:=by rw[hSd];exact Below.refl _ _
 refine wp_region_held_drew (S:=S) (by kernel_rfl) ?_ (fun hHeld=>?_)
 ·exact HSS.out _ _ hS0 (Below.refl _ _).drew
 clear hS0 hSd;generalize z24.drew=yd at *;refine u0 81 ?_;refine tU (v:=?_) 0 1 90 ?_ ?_;rotate_left
 ·intro w hSw;go_simp;(try with_reducible rfl)
 simp only[Ec,Ed];refine tU (v:=?_) 1 2 91 ?_ ?_;rotate_left
 ·intro w hSw;go_simp;(try with_reducible rfl)
 simp only[Ec,Ed];refine tU (v:=?_) 2 3 92 ?_ ?_;rotate_left
 ·intro w hSw;go_simp;(try with_reducible rfl)
 simp only[Ec,Ed];refine tU (v:=?_) 3 4 93 ?_ ?_;rotate_left
 ·intro w hSw;obtain⟨a0,a1,-,-⟩:=two_facts (HF.out w (HP.out w hSw)).2.2.2.2.2.1;go_simp;(try with_reducible rfl)
 simp only[Ec,Ed];refine Q1 4 ?_ (hr:=by as_aux_lemma=>kernel_rfl);intro _ Kq hK;go_simp;refine(span_mk 40 90 yd).mono ?_;rintro e zq ⟨rfl,hb⟩;have hSn:=HSS.out _ _ hHeld hb;clear hb;generalize zq=yd at *;try go_simp
 refine hK.out _ _ ?_ (fun hHeld=>?_)
 ·exact hSn
 clear hK Kq;refine uS 4 5 ?_;try refine pL _ ?_
 try simp only[Ec,Ed]
 refine tU (v:=?_) 5 6 95 ?_ ?_;rotate_left
 ·intro w hSw;go_simp;(try with_reducible rfl)
 simp only[Ec,Ed];refine tU (v:=?_) 6 7 96 ?_ ?_;rotate_left
 ·intro w hSw;go_simp;(try with_reducible rfl)
 simp only[Ec,Ed];refine tU (v:=?_) 7 8 97 ?_ ?_;rotate_left
 ·intro w hSw;go_simp;(try with_reducible rfl)
 simp only[Ec,Ed];refine tU (v:=?_) 8 9 98 ?_ ?_;rotate_left
 ·intro w hSw;go_simp;(try with_reducible rfl)
 simp only[Ec,Ed];refine tU (v:=?_) 9 10 99 ?_ ?_;rotate_left
 ·intro w hSw;go_simp;(try with_reducible rfl)
 simp only[Ec,Ed];refine tU (v:=?_) 10 11 100 ?_ ?_;rotate_left
 ·intro w hSw;go_simp;(try with_reducible rfl)
 simp only[Ec,Ed];refine tU (v:=?_) 11 12 101 ?_ ?_;rotate_left
 ·intro w hSw;go_simp;(try with_reducible rfl)
 simp only[Ec,Ed];refine tU (v:=?_) 12 13 102 ?_ ?_;rotate_left
 ·intro w hSw;obtain⟨a0,a1,-,-⟩:=two_facts (HF.out w (HP.out w hSw)).2.2.2.2.1;go_simp;(try with_reducible rfl)
 simp only[Ec,Ed];refine Q1 13 ?_ (hr:=by as_aux_lemma=>kernel_rfl);intro _ Kq hK;go_simp;refine(span_mk 490 530 yd).mono ?_;rintro e zq ⟨rfl,hb⟩;have hSn:=HSS.out _ _ hHeld hb;clear hb;generalize zq=yd at *;try go_simp
 refine hK.out _ _ ?_ (fun hHeld=>?_)
 ·exact hSn
 clear hK Kq;refine uS 13 14 ?_;try refine pL _ ?_
 try simp only[Ec,Ed]
 refine tU (v:=?_) 14 15 104 ?_ ?_;rotate_left
 ·intro w hSw;go_simp;(try with_reducible rfl)
 simp only[Ec,Ed];refine tU (v:=?_) 15 16 105 ?_ ?_;rotate_left
 ·intro w hSw;go_simp;(try with_reducible rfl)
 simp only[Ec,Ed];refine tU (v:=?_) 16 17 106 ?_ ?_;rotate_left
 ·intro w hSw;go_simp;(try with_reducible rfl)
 simp only[Ec,Ed];refine tU (v:=?_) 17 18 107 ?_ ?_;rotate_left
 ·intro w hSw;go_simp;(try with_reducible rfl)
 simp only[Ec,Ed];refine tU (v:=?_) 18 19 108 ?_ ?_;rotate_left
 ·intro w hSw;go_simp;(try with_reducible rfl)
 simp only[Ec,Ed];refine tU (v:=?_) 19 20 109 ?_ ?_;rotate_left
 ·intro w hSw;go_simp;(try with_reducible rfl)
 simp only[Ec,Ed];refine tU (v:=?_) 20 21 110 ?_ ?_;rotate_left
 ·intro w hSw;go_simp;(try with_reducible rfl)
 simp only[Ec,Ed];refine tU (v:=?_) 21 22 111 ?_ ?_;rotate_left
 ·intro w hSw;obtain⟨a0,a1,-,-⟩:=two_facts (HF.out w (HP.out w hSw)).2.2.2.1;go_simp;(try with_reducible rfl)
 simp only[Ec,Ed];refine Q1 22 ?_ (hr:=by as_aux_lemma=>kernel_rfl);intro _ Kq hK;go_simp;refine(span_mk 870 920 yd).mono ?_;rintro e zq ⟨rfl,hb⟩;have hSn:=HSS.out _ _ hHeld hb;clear hb;generalize zq=yd at *;try go_simp
 refine hK.out _ _ ?_ (fun hHeld=>?_)
 ·exact hSn
 clear hK Kq;refine uS 22 23 ?_;try refine pL _ ?_
 try simp only[Ec,Ed]
 refine tU (v:=?_) 23 24 113 ?_ ?_;rotate_left
 ·intro w hSw;go_simp;(try with_reducible rfl)
 simp only[Ec,Ed];refine tU (v:=?_) 24 25 114 ?_ ?_;rotate_left
 ·intro w hSw;go_simp;(try with_reducible rfl)
 simp only[Ec,Ed];refine tU (v:=?_) 25 26 115 ?_ ?_;rotate_left
 ·intro w hSw;go_simp;(try with_reducible rfl)
 simp only[Ec,Ed];refine tU (v:=?_) 26 27 116 ?_ ?_;rotate_left
 ·intro w hSw;go_simp;(try with_reducible rfl)
 simp only[Ec,Ed];refine tU (v:=?_) 27 28 117 ?_ ?_;rotate_left
 ·intro w hSw;go_simp;(try with_reducible rfl)
 simp only[Ec,Ed];refine tU (v:=?_) 28 29 118 ?_ ?_;rotate_left
 ·intro w hSw;go_simp;(try with_reducible rfl)
 simp only[Ec,Ed];refine tU (v:=?_) 29 30 119 ?_ ?_;rotate_left
 ·intro w hSw;go_simp;(try with_reducible rfl)
 simp only[Ec,Ed];refine tU (v:=?_) 30 31 120 ?_ ?_;rotate_left
 ·intro w hSw;obtain⟨a0,a1,-,-⟩:=two_facts (HF.out w (HP.out w hSw)).2.2.1;go_simp;(try with_reducible rfl)
 simp only[Ec,Ed];refine Q1 31 ?_ (hr:=by as_aux_lemma=>kernel_rfl);intro _ Kq hK;go_simp;refine(part_mk 29 100 yd).mono ?_;rintro e zq ⟨rfl,hb⟩;have hSn:=HSS.out _ _ hHeld hb;clear hb;generalize zq=yd at *;try go_simp
 refine hK.out _ _ ?_ (fun hHeld=>?_)
 ·exact hSn
 clear hK Kq;refine uS 31 32 ?_;try refine pL _ ?_
 try simp only[Ec,Ed]
 refine tU (v:=?_) 32 33 122 ?_ ?_;rotate_left
 ·intro w hSw;go_simp;(try with_reducible rfl)
 simp only[Ec,Ed];refine tU (v:=?_) 33 34 123 ?_ ?_;rotate_left
 ·intro w hSw;go_simp;(try with_reducible rfl)
 simp only[Ec,Ed];refine tU (v:=?_) 34 35 124 ?_ ?_;rotate_left
 ·intro w hSw;go_simp;(try with_reducible rfl)
 simp only[Ec,Ed];refine tU (v:=?_) 35 36 125 ?_ ?_;rotate_left
 ·intro w hSw;obtain⟨a0,a1,-,-⟩:=two_facts (HF.out w (HP.out w hSw)).2.1;go_simp;(try with_reducible rfl)
 simp only[Ec,Ed];refine Q1 36 ?_ (hr:=by as_aux_lemma=>kernel_rfl);intro _ Kq hK;go_simp;refine(part_mk 31 100 yd).mono ?_;rintro e zq ⟨rfl,hb⟩;have hSn:=HSS.out _ _ hHeld hb;clear hb;generalize zq=yd at *;try go_simp
 refine hK.out _ _ ?_ (fun hHeld=>?_)
 ·exact hSn
 clear hK Kq;refine uS 36 37 ?_;try refine pL _ ?_
 try simp only[Ec,Ed]
 refine tU (v:=?_) 37 38 127 ?_ ?_;rotate_left
 ·intro w hSw;go_simp;(try with_reducible rfl)
 simp only[Ec,Ed];refine tU (v:=?_) 38 39 128 ?_ ?_;rotate_left
 ·intro w hSw;go_simp;(try with_reducible rfl)
 simp only[Ec,Ed];refine tU (v:=?_) 39 40 129 ?_ ?_;rotate_left
 ·intro w hSw;go_simp;(try with_reducible rfl)
 simp only[Ec,Ed];refine tU (v:=?_) 40 41 130 ?_ ?_;rotate_left
 ·intro w hSw;go_simp;(try with_reducible rfl)
 simp only[Ec,Ed];refine tU (v:=?_) 41 42 131 ?_ ?_;rotate_left
 ·intro w hSw;go_simp;(try with_reducible rfl)
 simp only[Ec,Ed];refine tU (v:=?_) 42 43 132 ?_ ?_;rotate_left
 ·intro w hSw;go_simp;(try with_reducible rfl)
 simp only[Ec,Ed];refine tU (v:=?_) 43 44 133 ?_ ?_;rotate_left
 ·intro w hSw;go_simp;(try with_reducible rfl)
 simp only[Ec,Ed];refine tU (v:=?_) 44 45 134 ?_ ?_;rotate_left
 ·intro w hSw;go_simp;(try with_reducible rfl)
 simp only[Ec,Ed];refine tU (v:=?_) 45 46 135 ?_ ?_;rotate_left
 ·intro w hSw;go_simp;(try with_reducible rfl)
 simp only[Ec,Ed];refine tU (v:=?_) 46 47 136 ?_ ?_;rotate_left
 ·intro w hSw;go_simp;(try with_reducible rfl)
 simp only[Ec,Ed];refine tU (v:=?_) 47 48 137 ?_ ?_;rotate_left
 ·intro w hSw;go_simp;(try with_reducible rfl)
 simp only[Ec,Ed];refine tU (v:=?_) 48 49 138 ?_ ?_;rotate_left
 ·intro w hSw;go_simp;(try with_reducible rfl)
 simp only[Ec,Ed];refine tU (v:=?_) 49 50 139 ?_ ?_;rotate_left
 ·intro w hSw;go_simp;(try with_reducible rfl)
 simp only[Ec,Ed];refine tU (v:=?_) 50 51 140 ?_ ?_;rotate_left
 ·intro w hSw;go_simp;(try with_reducible rfl)
 simp only[Ec,Ed];refine tU (v:=?_) 51 52 141 ?_ ?_;rotate_left
 ·intro w hSw;go_simp;(try with_reducible rfl)
 simp only[Ec,Ed];refine tU (v:=?_) 52 53 142 ?_ ?_;rotate_left
 ·intro w hSw;go_simp;(try with_reducible rfl)
 simp only[Ec,Ed];refine tU (v:=?_) 53 54 143 ?_ ?_;rotate_left
 ·intro w hSw;go_simp;(try with_reducible rfl)
 simp only[Ec,Ed];refine tU (v:=?_) 54 55 144 ?_ ?_;rotate_left
 ·intro w hSw;go_simp;(try with_reducible rfl)
 simp only[Ec,Ed];refine tU (v:=?_) 55 56 145 ?_ ?_;rotate_left
 ·intro w hSw;go_simp;(try with_reducible rfl)
 simp only[Ec,Ed];refine tU (v:=?_) 56 57 146 ?_ ?_;rotate_left
 ·intro w hSw;go_simp;(try with_reducible rfl)
 simp only[Ec,Ed];refine tU (v:=?_) 57 58 147 ?_ ?_;rotate_left
 ·intro w hSw;go_simp;(try with_reducible rfl)
 simp only[Ec,Ed];refine Q1 58 ?_ (hr:=by as_aux_lemma=>kernel_rfl);intro _ Kq hK;go_simp;obtain⟨nk,hn_⟩:∃q,q=yd.heap.size:=⟨_,rfl⟩;have hOk:=heap_alloc_new yd (.cells #[.int .i64 12] 3);rw[←hn_] at hOk;have hbA:=(Below.refl yd.heap.size yd).alloc (Nat.le_refl _) (.cells #[.int .i64 12] 3);have hSn:=HSS.out _ _ hHeld hbA;clear hbA;generalize (yd.alloc (.cells #[.int .i64 12] 3))=yd at *;refine hK.out _ _ ?_ (fun hHeld=>?_)
 ·exact hSn
 clear hK Kq;refine uS 58 59 ?_;try refine pL _ ?_
 try simp only[Ec,Ed]
 try rw[←hn_]
 clear hn_;refine Q1 59 ?_ (hr:=by as_aux_lemma=>kernel_rfl);intro _ Kq hK;go_simp;refine(is_eq A7 _ m7 1 c7 1 [12] yd (by unfold maxLen;omega) (by unfold maxLen;omega) (HF.out yd (HP.out yd hHeld)).1 (rd_cel hOk rfl)).mono ?_;rintro e zq ⟨rfl,kq,hzq⟩;have hb:Below yd.heap.size yd zq:=by rw[hzq];exact below_drewN (Below.refl _ _) kq
 clear hzq;have hSn:=HSS.out _ _ hHeld hb;clear hb;generalize zq=yd at *;try go_simp
 refine hK.out _ _ ?_ (fun hHeld=>?_)
 ·exact hSn
 clear hK Kq;refine uS 59 60 ?_;try refine pL _ ?_
 try simp only[Ec,Ed]
 refine tU (v:=?_) 60 61 150 ?_ ?_;rotate_left
 ·intro w hSw;go_simp;(try with_reducible rfl)
 simp only[Ec,Ed];refine tU (v:=?_) 61 62 151 ?_ ?_;rotate_left
 ·intro w hSw;go_simp;(try with_reducible rfl)
 simp only[Ec,Ed];refine tU (v:=?_) 62 63 152 ?_ ?_;rotate_left
 ·intro w hSw;go_simp;(try with_reducible rfl)
 simp only[Ec,Ed];refine tU (v:=?_) 63 64 153 ?_ ?_;rotate_left
 ·intro w hSw;go_simp;(try with_reducible rfl)
 simp only[Ec,Ed];refine tU (v:=?_) 64 65 154 ?_ ?_;rotate_left
 ·intro w hSw;go_simp;(try with_reducible rfl)
 simp only[Ec,Ed];refine tU (v:=?_) 65 66 155 ?_ ?_;rotate_left
 ·intro w hSw;go_simp;(try with_reducible rfl)
 simp only[Ec,Ed];refine tU (v:=?_) 66 67 156 ?_ ?_;rotate_left
 ·intro w hSw;go_simp;(try with_reducible rfl)
 simp only[Ec,Ed];refine tU (v:=?_) 67 68 157 ?_ ?_;rotate_left
 ·intro w hSw;go_simp;(try with_reducible rfl)
 simp only[Ec,Ed];refine tU (v:=?_) 68 69 158 ?_ ?_;rotate_left
 ·intro w hSw;go_simp;(try with_reducible rfl)
 simp only[Ec,Ed];refine tU (v:=?_) 69 70 159 ?_ ?_;rotate_left
 ·intro w hSw;go_simp;(try with_reducible rfl)
 simp only[Ec,Ed];refine tU (v:=?_) 70 71 160 ?_ ?_;rotate_left
 ·intro w hSw;go_simp;(try with_reducible rfl)
 simp only[Ec,Ed];refine tU (v:=?_) 71 72 161 ?_ ?_;rotate_left
 ·intro w hSw;go_simp;(try with_reducible rfl)
 simp only[Ec,Ed];refine tU (v:=?_) 72 73 162 ?_ ?_;rotate_left
 ·intro w hSw;go_simp;(try with_reducible rfl)
 simp only[Ec,Ed];refine tU (v:=?_) 73 74 163 ?_ ?_;rotate_left
 ·intro w hSw;go_simp;(try with_reducible rfl)
 simp only[Ec,Ed];refine tU (v:=?_) 74 75 164 ?_ ?_;rotate_left
 ·intro w hSw;go_simp;(try with_reducible rfl)
 simp only[Ec,Ed];refine tU (v:=?_) 75 76 165 ?_ ?_;rotate_left
 ·intro w hSw;go_simp;(try with_reducible rfl)
 simp only[Ec,Ed];refine tU (v:=?_) 76 77 166 ?_ ?_;rotate_left
 ·intro w hSw;go_simp;(try with_reducible rfl)
 simp only[Ec,Ed];refine tU (v:=?_) 77 78 167 ?_ ?_;rotate_left
 ·intro w hSw;go_simp;(try with_reducible rfl)
 simp only[Ec,Ed];refine Q1 78 ?_ (hr:=by as_aux_lemma=>kernel_rfl);intro _ Kq hK;go_simp;refine(is_eq A9 none 0 0 c9 0 [] yd (by unfold maxLen;omega) (by unfold maxLen;omega) (rd_nil A9) (rd_nil none)).mono ?_;rintro e zq ⟨rfl,kq,hzq⟩;have hb:Below yd.heap.size yd zq:=by rw[hzq];exact below_drewN (Below.refl _ _) kq
 clear hzq;have hSn:=HSS.out _ _ hHeld hb;clear hb;generalize zq=yd at *;try go_simp
 refine hK.out _ _ ?_ (fun hHeld=>?_)
 ·exact hSn
 clear hK Kq;refine uS 78 79 ?_;try refine pL _ ?_
 try simp only[Ec,Ed]
 refine tU (v:=?_) 79 80 169 ?_ ?_;rotate_left
 ·intro w hSw;go_simp;(try with_reducible rfl)
 simp only[Ec,Ed];refine tU (v:=?_) 80 81 170 ?_ ?_;rotate_left
 ·intro w hSw;go_simp;(try with_reducible rfl)
 simp only[Ec,Ed];refine wpAnyH_done (by kernel_rfl) ?_ _;have hb:=HP.out yd hHeld;clear HSS HP hHeld;generalize yd=z25 at *;replace HF:=Lib.hid (fun y (hy:Below z25.heap.size z25 y)=>HF.out y (below_of hb hy));clear hb;go_wp2_with fail
 refine(mill_any z25).mono ?_;rintro e v1 ⟨⟨p,O2,oc,rfl,hp,hr,ho⟩,hB⟩;obtain⟨v2,hv2_⟩:∃y,y=v1.alloc (.cells #[.int .i64 1,.int .i64 0,.int .i64 1,.int .i64 0] 51):=⟨_,rfl⟩;have hb:Below v1.heap.size v1 v2:=by rw[hv2_];exact(Below.refl _ _).alloc (Nat.le_refl _) _
 have hs1:v2.heap[v1.heap.size]? = some (.cells #[.int .i64 1,.int .i64 0,.int .i64 1,.int .i64 0] 51 (0,0)):=by rw[hv2_];exact heap_alloc_new _ _
 obtain⟨s1,hs1_⟩:∃q,q=v1.heap.size:=⟨_,rfl⟩;have hps:p<s1:=by rw[hs1_];exact(Array.getElem?_eq_some_iff.1 hr).1
 have hne:=ownR_ne ho hr (by decide);have hlt:=fun q hq=>(ownR_lt ho (k:=q) hq).2
 rw[←hs1_] at hs1 hlt;have hr:=keepO hb hr;have ho:=ownR_below ho hb;have hB:=below_of hB hb;have hv2:=Lib.hid hv2_;have hs1e:=Lib.hid hs1_;have hnh:=Lib.hid hne;have hlh:=Lib.hid hlt;clear hb hv2_ hs1_ hne hlt;go_wp2_with fail
 rw[←hv2.out,←hs1e.out];clear hv2 hs1e;refine(weighing_any 1 1 1 0 0 v2).mono ?_;rintro e v3 ⟨rfl,hb⟩;have hr:=keepO hb hr;have ho:=ownR_below ho hb;have hB:=below_of hB hb;have hs1:=keepO hb hs1;clear hb;obtain⟨s2,hs2_⟩:∃q,q=v3.heap.size:=⟨_,rfl⟩;obtain⟨v4,hv4_⟩:∃y,y=v3.alloc (.cells #[.int .i64 1,.int .i64 1,.int .i64 1,.int .i64 0,.int .i64 0] 81):=⟨_,rfl⟩;have hb:Below v3.heap.size v3 v4:=by rw[hv4_];exact(Below.refl _ _).alloc (Nat.le_refl _) _
 have hs2:v4.heap[s2]? = some (.cells #[.int .i64 1,.int .i64 1,.int .i64 1,.int .i64 0,.int .i64 0] 81 (0,0)):=by rw[hv4_,hs2_];exact heap_alloc_new _ _
 have hss:s1<s2:=by rw[hs2_];exact(Array.getElem?_eq_some_iff.1 hs1).1
 have hr:=keepO hb hr;have ho:=ownR_below ho hb;have hB:=below_of hB hb;have hs1:=keepO hb hs1;clear hb;have hz4:v4.heap.size=s2+1:=by rw[hv4_,hs2_];simp
 obtain⟨v5,hv5_⟩:∃y,y=v4.alloc (.cells #[.slice (some ⟨p,0,none⟩) 3 3,.slice O2 15 oc] 25):=⟨_,rfl⟩;have hb:Below v4.heap.size v4 v5:=by rw[hv5_];exact(Below.refl _ _).alloc (Nat.le_refl _) _
 have hod:v5.heap[s2+1]? = some (.cells #[.slice (some ⟨p,0,none⟩) 3 3,.slice O2 15 oc] 25 (0,0)):=by rw[hv5_,←hz4];exact heap_alloc_new _ _
 have hr:=keepO hb hr;have ho:=ownR_below ho hb;have hB:=below_of hB hb;have hs1:=keepO hb hs1;have hs2:=keepO hb hs2;clear hb;have hz5:v5.heap.size=s2+1+1:=by rw[hv5_,←hz4];simp
 obtain⟨v6,hv6_⟩:∃y,y=v5.alloc (.cells #[.slice (some ⟨s1,0,none⟩) 1 1,.slice (some ⟨s2,0,none⟩) 1 1] 25):=⟨_,rfl⟩;have hb:Below v5.heap.size v5 v6:=by rw[hv6_];exact(Below.refl _ _).alloc (Nat.le_refl _) _
 have hem:v6.heap[s2+1+1]? = some (.cells #[.slice (some ⟨s1,0,none⟩) 1 1,.slice (some ⟨s2,0,none⟩) 1 1] 25 (0,0)):=by rw[hv6_,←hz5];exact heap_alloc_new _ _
 have hr:=keepO hb hr;have ho:=ownR_below ho hb;have hB:=below_of hB hb;have hs1:=keepO hb hs1;have hs2:=keepO hb hs2;have hod:=keepO hb hod;clear hb hz4 hz5;have hv6:=Lib.hid hv6_;have hv5:=Lib.hid hv5_;have hv4:=Lib.hid hv4_;have hs2e:=Lib.hid hs2_;clear hv6_ hv5_ hv4_ hs2_;have hrh:=Lib.hid hr;have hoh:=Lib.hid ho;have hBh:=Lib.hid hB;have h1h:=Lib.hid hs1;have h2h:=Lib.hid hs2;have hodh:=Lib.hid hod;have hemh:=Lib.hid hem;clear hr ho hB hs1 hs2 hod hem
 go_upto_region 15 with (fail)
 rw[←hs2e.out,←hv4.out,←hv5.out,←hv6.out];clear hv4 hv5 hv6 hs2e;obtain⟨q0,q1,-,-⟩:=two_facts hodh.out;have c3:=cel_at' hrh.out (j:=3) rfl;have f3:v6.frozen? ⟨p,3,none⟩=false:=by have h:=hrh.out;simp[World.frozen?,h]
 obtain⟨v7,hv7_⟩:∃y,y=v6.setCell ⟨p,3,none⟩ (.int .i64 1):=⟨_,rfl⟩;have far:∀q,q≠p→v7.heap[q]? = v6.heap[q]?:=fun q hq=>by rw[hv7_];exact Below.heap_setCell v6 ⟨p,3,none⟩ _ q hq
 have hrO:v7.heap[p]? = some (.cells #[.int .i64 1,.int .i64 4,.int .i64 1,.int .i64 1,.int .i64 2,.int .i64 4,.int .i64 2,.int .i64 3,.int .i64 3,.int .i64 6,.int .i64 1,.int .i64 0] 51 (0,0)):=by have h:=hrh.out;rw[hv7_];simp[World.setCell,Array.getElem?_modify,h]
 have hb:Below z25.heap.size z25 v7:=by rw[hv7_];exact hBh.out.setCell (p:=⟨p,3,none⟩) hp _
 have hoO:=ownR_block hoh.out fun q hq=>far q (hnh.out q hq);have h1O:=(far s1 (by omega)).trans h1h.out;have h2O:=(far s2 (by omega)).trans h2h.out;have hodO:=(far (s2+1) (by omega)).trans hodh.out;have hemO:=(far (s2+1+1) (by omega)).trans hemh.out;have hv7:=Lib.hid hv7_;replace HF:=Lib.hid (fun y (hy:Below v7.heap.size v7 y)=>And.intro (keepO hy hrO) (HF.out y (below_of hb hy)));replace HF:=Lib.hid (fun y (hy:Below v7.heap.size v7 y)=>And.intro (((Reads.of_own hoO).below hy).more hy.size) (HF.out y hy));replace HF:=Lib.hid (fun y (hy:Below v7.heap.size v7 y)=>And.intro (keepO hy hodO) (HF.out y hy));replace HF:=Lib.hid (fun y (hy:Below v7.heap.size v7 y)=>And.intro (keepO hy hemO) (HF.out y hy));replace HF:=Lib.hid (fun y (hy:Below v7.heap.size v7 y)=>And.intro (keepO hy h1O) (HF.out y hy));replace HF:=Lib.hid (fun y (hy:Below v7.heap.size v7 y)=>And.intro (keepO hy h2O) (HF.out y hy));clear far hrO hoO h1O h2O hodO hemO hb hrh hoh hBh h1h h2h hodh hemh hnh hlh hv7_ hps hss hp;go_wp2_with fail
 rw[←hv7.out];clear hv7 q0 q1 c3 f3;refine(changed2 v7).mono ?_;rintro e u1 ⟨⟨cp,cg,cc,rfl,hr,ho⟩,hB⟩;obtain⟨cb,hcb_⟩:∃q,q=u1.heap.size:=⟨_,rfl⟩;obtain⟨u2,hu2_⟩:∃y,y=u1.alloc (.cells #[.slice (some ⟨cp,0,none⟩) 3 3,.slice (some ⟨cg,0,none⟩) 15 cc] 25):=⟨_,rfl⟩;have hb:Below u1.heap.size u1 u2:=by rw[hu2_];exact(Below.refl _ _).alloc (Nat.le_refl _) _
 have hcl:u2.heap[cb]? = some (.cells #[.slice (some ⟨cp,0,none⟩) 3 3,.slice (some ⟨cg,0,none⟩) 15 cc] 25 (0,0)):=by rw[hu2_,hcb_];exact heap_alloc_new _ _
 have hgl:=ownR_lt ho (k:=cg) rfl;have hpg:cp≠cg:=(ownR_ne ho hr (by decide) cg rfl).symm;rw[←hcb_] at hgl;have hr:=keepO hb hr;have ho:=ownR_below ho hb;have hB:=below_of hB hb;have hu2:=Lib.hid hu2_;have hcbe:=Lib.hid hcb_;have hrh:=Lib.hid hr;have hoh:=Lib.hid ho;have hBh:=Lib.hid hB;have hclh:=Lib.hid hcl;clear hr ho hB hcl hb hu2_ hcb_
 go_upto_region 17 with (fail)
 rw[←hcbe.out,←hu2.out];clear hu2 hcbe;obtain⟨q0,q1,-,-⟩:=two_facts hclh.out;obtain⟨⟨_,cu⟩,cf,hoS⟩:=own_set1 (i:=12) hoh.out (by omega) (.int .i64 2);obtain⟨u3,hu3_⟩:∃y,y=u2.setCell ⟨cg,12,none⟩ (.int .i64 2):=⟨_,rfl⟩;rw[←hu3_] at hoS;have far:∀q,q≠cg→u3.heap[q]? = u2.heap[q]?:=fun q hq=>by rw[hu3_];exact Below.heap_setCell u2 ⟨cg,12,none⟩ _ q hq
 have hb:Below v7.heap.size v7 u3:=by rw[hu3_];exact hBh.out.setCell (p:=⟨cg,12,none⟩) (by have:=hgl.1;simp only;omega) _
 have hclO:=(far cb (by omega)).trans hclh.out;have hrO:=(far cp hpg).trans hrh.out;have hoE:Reads u3 u3.heap.size 5 (some ⟨cg,0,none⟩) 15 (wgs mlE):=Reads.of_own (show u3.ownsRow _ _ _ _ _ (wgs mlE) from hoS);have hu3:=Lib.hid hu3_;replace HF:=Lib.hid (fun y (hy:Below u3.heap.size u3 y)=>And.intro (keepO hy hclO) (HF.out y (below_of hb hy)));replace HF:=Lib.hid (fun y (hy:Below u3.heap.size u3 y)=>And.intro (keepO hy hrO) (HF.out y hy));replace HF:=Lib.hid (fun y (hy:Below u3.heap.size u3 y)=>And.intro ((hoE.below hy).more hy.size) (HF.out y hy));clear far hclO hrO hoE hoS hb hrh hoh hBh hclh hu3_ hpg hgl
 go_upto_region 18 with (fail)
 rw[←hu3.out];clear q0 q1 cu cf hu3;obtain⟨o0,o1,-,-⟩:=two_facts (HF.out u3 (Below.refl _ _)).2.2.2.2.2.2.1;go_wp2_with fail
 clear o0 o1;refine(x10 (some ⟨p,0,none⟩) O2 oc u3 (rd_cel (HF.out u3 (Below.refl _ _)).2.2.2.2.2.2.2.2.1 rfl) (HF.out u3 (Below.refl _ _)).2.2.2.2.2.2.2.1 (HF.out u3 (Below.refl _ _)).2.2.2.2.2.2.2.2.2.2.2.2.2.2.2.1).mono ?_;rintro e z26 ⟨rfl,hb⟩;replace HF:=Lib.hid (fun y (hy:Below z26.heap.size z26 y)=>HF.out y (below_of hb hy));clear hb;go_wp2_with fail
 refine(mill_rd z26).mono ?_;rintro e z27 ⟨⟨A,A2,c2,rfl,hr,ho⟩,hb⟩;have HM:=Lib.hid (fun y (hy:Below z27.heap.size z27 y)=>And.intro ((hr.below hy).more hy.size) ((ho.below hy).more hy.size));replace HF:=Lib.hid (fun y (hy:Below z27.heap.size z27 y)=>HF.out y (below_of hb hy));clear hb hr ho;go_wp2_with fail
 refine(x11 A A2 c2 z27 (HM.out z27 (Below.refl _ _)).1 (HM.out z27 (Below.refl _ _)).2 (HF.out z27 (Below.refl _ _)).2.2.2.2.2.2.2.2.2.2.2.2.2.2.2.1).mono ?_;rintro e z28 ⟨rfl,hb⟩;replace HF:=Lib.hid (fun y (hy:Below z28.heap.size z28 y)=>HF.out y (below_of hb hy));clear hb HM;go_wp2_with fail
 refine(mill_rd z28).mono ?_;rintro e z29 ⟨⟨A,A2,c2,rfl,hr,ho⟩,hb⟩;have HM:=Lib.hid (fun y (hy:Below z29.heap.size z29 y)=>And.intro ((hr.below hy).more hy.size) ((ho.below hy).more hy.size));replace HF:=Lib.hid (fun y (hy:Below z29.heap.size z29 y)=>HF.out y (below_of hb hy));clear hb hr ho;go_wp2_with fail
 refine(x12 A A2 c2 z29 (HM.out z29 (Below.refl _ _)).1 (HM.out z29 (Below.refl _ _)).2 (HF.out z29 (Below.refl _ _)).2.2.2.2.2.2.2.2.2.2.2.2.2.2.2.1).mono ?_;rintro e z30 ⟨rfl,hb⟩;replace HF:=Lib.hid (fun y (hy:Below z30.heap.size z30 y)=>HF.out y (below_of hb hy));clear hb HM;go_wp2_with fail
 refine(changed13 z30).mono ?_;rintro e z31 ⟨⟨A,A2,c2,rfl,hr,ho⟩,hb⟩;have HM:=Lib.hid (fun y (hy:Below z31.heap.size z31 y)=>And.intro ((hr.below hy).more hy.size) ((ho.below hy).more hy.size));replace HF:=Lib.hid (fun y (hy:Below z31.heap.size z31 y)=>HF.out y (below_of hb hy));clear hb hr ho;go_wp2_with fail
 refine(x13 A A2 c2 z31 (HM.out z31 (Below.refl _ _)).1 (HM.out z31 (Below.refl _ _)).2 (HF.out z31 (Below.refl _ _)).2.2.2.2.2.2.2.2.2.2.2.2.2.2.2.1).mono ?_;rintro e z32 ⟨rfl,hb⟩;replace HF:=Lib.hid (fun y (hy:Below z32.heap.size z32 y)=>HF.out y (below_of hb hy));clear hb HM;go_wp2_with fail
 refine(changed13 z32).mono ?_;rintro e z33 ⟨⟨A,A2,c2,rfl,hr,ho⟩,hb⟩;have HM:=Lib.hid (fun y (hy:Below z33.heap.size z33 y)=>And.intro ((hr.below hy).more hy.size) ((ho.below hy).more hy.size));replace HF:=Lib.hid (fun y (hy:Below z33.heap.size z33 y)=>HF.out y (below_of hb hy));clear hb hr ho;go_wp2_with fail
 refine(x14 A A2 c2 z33 (HM.out z33 (Below.refl _ _)).1 (HM.out z33 (Below.refl _ _)).2 (HF.out z33 (Below.refl _ _)).2.2.2.2.2.2.2.2.2.2.2.2.2.2.2.1).mono ?_;rintro e z34 ⟨⟨A14,m14,c14,rfl⟩,hb⟩;replace HF:=Lib.hid (fun y (hy:Below z34.heap.size z34 y)=>HF.out y (below_of hb hy));clear hb HM;go_wp2_with fail
 refine(mill_rd z34).mono ?_;rintro e z35 ⟨⟨A,A2,c2,rfl,hr,ho⟩,hb⟩;have HM:=Lib.hid (fun y (hy:Below z35.heap.size z35 y)=>And.intro ((hr.below hy).more hy.size) ((ho.below hy).more hy.size));replace HF:=Lib.hid (fun y (hy:Below z35.heap.size z35 y)=>HF.out y (below_of hb hy));clear hb hr ho;go_wp2_with fail
 refine(x15 A A2 c2 z35 (HM.out z35 (Below.refl _ _)).1 (HM.out z35 (Below.refl _ _)).2 (HF.out z35 (Below.refl _ _)).2.2.2.2.2.2.2.2.2.2.2.2.2.2.2.1).mono ?_;rintro e z36 ⟨rfl,hb⟩;replace HF:=Lib.hid (fun y (hy:Below z36.heap.size z36 y)=>HF.out y (below_of hb hy));clear hb HM;go_wp2_with fail
 refine(changed13 z36).mono ?_;rintro e z37 ⟨⟨A,A2,c2,rfl,hr,ho⟩,hb⟩;have HM:=Lib.hid (fun y (hy:Below z37.heap.size z37 y)=>And.intro ((hr.below hy).more hy.size) ((ho.below hy).more hy.size));replace HF:=Lib.hid (fun y (hy:Below z37.heap.size z37 y)=>HF.out y (below_of hb hy));clear hb hr ho;go_wp2_with fail
 refine(x16 A A2 c2 z37 (HM.out z37 (Below.refl _ _)).1 (HM.out z37 (Below.refl _ _)).2 (HF.out z37 (Below.refl _ _)).2.2.2.2.2.2.2.2.2.2.2.2.2.2.2.1).mono ?_;rintro e z38 ⟨⟨A16,m16,c16,rfl⟩,hb⟩;replace HF:=Lib.hid (fun y (hy:Below z38.heap.size z38 y)=>HF.out y (below_of hb hy));clear hb HM;obtain⟨o0,o1,-,-⟩:=two_facts (HF.out z38 (Below.refl _ _)).2.2.2.2.2.1;go_wp2_with fail
 clear o0 o1;refine(x17 (some ⟨s1,0,none⟩) (some ⟨s2,0,none⟩) z38 (rd_cel (HF.out z38 (Below.refl _ _)).2.2.2.2.1 rfl) (rd_cel (HF.out z38 (Below.refl _ _)).2.2.2.1 rfl) (HF.out z38 (Below.refl _ _)).2.2.2.2.2.2.2.2.2.2.2.2.2.2.2.1).mono ?_;rintro e z39 ⟨rfl,hb⟩;replace HF:=Lib.hid (fun y (hy:Below z39.heap.size z39 y)=>HF.out y (below_of hb hy));clear hb;go_wp2_with fail
 refine(mill_rd z39).mono ?_;rintro e z40 ⟨⟨A,A2,c2,rfl,hr,ho⟩,hb⟩;have HM:=Lib.hid (fun y (hy:Below z40.heap.size z40 y)=>And.intro ((hr.below hy).more hy.size) ((ho.below hy).more hy.size));replace HF:=Lib.hid (fun y (hy:Below z40.heap.size z40 y)=>HF.out y (below_of hb hy));clear hb hr ho;go_wp2_with fail
 refine(part_mk 2 1 z40).mono ?_;rintro e z41 ⟨rfl,hb⟩;replace HM:=Lib.hid (fun y (hy:Below z41.heap.size z41 y)=>HM.out y (below_of hb hy));replace HF:=Lib.hid (fun y (hy:Below z41.heap.size z41 y)=>HF.out y (below_of hb hy));clear hb;go_wp2_with fail
 refine(x18 A A2 c2 z41 (HM.out z41 (Below.refl _ _)).1 (HM.out z41 (Below.refl _ _)).2 (HF.out z41 (Below.refl _ _)).2.2.2.2.2.2.2.2.2.2.2.2.2.2.2.1).mono ?_;rintro e z42 ⟨rfl,hb⟩;replace HF:=Lib.hid (fun y (hy:Below z42.heap.size z42 y)=>HF.out y (below_of hb hy));clear hb HM;obtain⟨o0,o1,-,-⟩:=two_facts (HF.out z42 (Below.refl _ _)).2.2.1;go_wp2_with fail
 clear o0 o1;refine(x19 (some ⟨cp,0,none⟩) (some ⟨cg,0,none⟩) cc z42 (rd_cel (HF.out z42 (Below.refl _ _)).2.1 rfl) (HF.out z42 (Below.refl _ _)).1 (HF.out z42 (Below.refl _ _)).2.2.2.2.2.2.2.2.2.2.2.2.2.2.2.1).mono ?_;rintro e z43 ⟨⟨A19,m19,c19,rfl⟩,hb⟩;replace HF:=Lib.hid (fun y (hy:Below z43.heap.size z43 y)=>HF.out y (below_of hb hy));clear hb;go_wp2_with fail
 refine(mill_rd z43).mono ?_;rintro e z44 ⟨⟨A,A2,c2,rfl,hr,ho⟩,hb⟩;have HM:=Lib.hid (fun y (hy:Below z44.heap.size z44 y)=>And.intro ((hr.below hy).more hy.size) ((ho.below hy).more hy.size));replace HF:=Lib.hid (fun y (hy:Below z44.heap.size z44 y)=>HF.out y (below_of hb hy));clear hb hr ho;go_wp2_with fail
 refine(weighing_any 3 1 1 0 0 z44).mono ?_;rintro e z45 ⟨rfl,hb⟩;replace HM:=Lib.hid (fun y (hy:Below z45.heap.size z45 y)=>HM.out y (below_of hb hy));replace HF:=Lib.hid (fun y (hy:Below z45.heap.size z45 y)=>HF.out y (below_of hb hy));clear hb;go_wp2_with fail
 refine(x20 A A2 c2 z45 (HM.out z45 (Below.refl _ _)).1 (HM.out z45 (Below.refl _ _)).2 (HF.out z45 (Below.refl _ _)).2.2.2.2.2.2.2.2.2.2.2.2.2.2.2.1).mono ?_;rintro e z46 ⟨⟨A1_20,n1_20,c1_20,A3_20,n2_20,c3_20,rfl⟩,hb⟩;replace HF:=Lib.hid (fun y (hy:Below z46.heap.size z46 y)=>HF.out y (below_of hb hy));clear hb HM;obtain⟨z47,hz47_⟩:∃y,y=z46.alloc (.cells #[.slice A1_20 n1_20 c1_20,.slice A3_20 n2_20 c3_20] 25):=⟨_,rfl⟩;have hb:Below z46.heap.size z46 z47:=by rw[hz47_];exact(Below.refl _ _).alloc (Nat.le_refl _) _
 have ho_:z47.heap[z46.heap.size]? = some (.cells #[.slice A1_20 n1_20 c1_20,.slice A3_20 n2_20 c3_20] 25 (0,0)):=by rw[hz47_];exact heap_alloc_new _ _
 replace HF:=Lib.hid (fun y (hy:Below z47.heap.size z47 y)=>And.intro (keepO hy ho_) (HF.out y (below_of hb hy)));have hz47:=Lib.hid hz47_;clear hb ho_ hz47_;go_wp2_with fail
 rw[←hz47.out];clear hz47;refine(mill_rd z47).mono ?_;rintro e z48 ⟨⟨A,A2,c2,rfl,hr,ho⟩,hb⟩;have HM:=Lib.hid (fun y (hy:Below z48.heap.size z48 y)=>And.intro ((hr.below hy).more hy.size) ((ho.below hy).more hy.size));replace HF:=Lib.hid (fun y (hy:Below z48.heap.size z48 y)=>HF.out y (below_of hb hy));clear hb hr ho;obtain⟨z49,hz49_⟩:∃y,y=z48.alloc (.cells #[.int .i64 16] 3):=⟨_,rfl⟩;have hb:Below z48.heap.size z48 z49:=by rw[hz49_];exact(Below.refl _ _).alloc (Nat.le_refl _) _
 have ho_:z49.heap[z48.heap.size]? = some (.cells #[.int .i64 16] 3 (0,0)):=by rw[hz49_];exact heap_alloc_new _ _
 replace HF:=Lib.hid (fun y (hy:Below z49.heap.size z49 y)=>And.intro (keepO hy ho_) (HF.out y (below_of hb hy)));have hz49:=Lib.hid hz49_;clear hb ho_ hz49_;replace HM:=Lib.hid (fun y (hy:Below z49.heap.size z49 y)=>HM.out y (below_of (by rw[hz49.out];exact(Below.refl _ _).alloc (Nat.le_refl _) _) hy));go_wp2_with fail
 rw[←hz49.out];clear hz49;refine(x21 A A2 c2 z49 (HM.out z49 (Below.refl _ _)).1 (HM.out z49 (Below.refl _ _)).2 (HF.out z49 (Below.refl _ _)).2.2.2.2.2.2.2.2.2.2.2.2.2.2.2.2.2.1 _ (rd_cel (HF.out z49 (Below.refl _ _)).1 rfl)).mono ?_;rintro e z50 ⟨⟨A1_21,n1_21,c1_21,A3_21,n2_21,c3_21,rfl⟩,hb⟩;replace HF:=Lib.hid (fun y (hy:Below z50.heap.size z50 y)=>HF.out y (below_of hb hy));clear hb HM;obtain⟨z51,hz51_⟩:∃y,y=z50.alloc (.cells #[.slice A1_21 n1_21 c1_21,.slice A3_21 n2_21 c3_21] 25):=⟨_,rfl⟩;have hb:Below z50.heap.size z50 z51:=by rw[hz51_];exact(Below.refl _ _).alloc (Nat.le_refl _) _
 have ho_:z51.heap[z50.heap.size]? = some (.cells #[.slice A1_21 n1_21 c1_21,.slice A3_21 n2_21 c3_21] 25 (0,0)):=by rw[hz51_];exact heap_alloc_new _ _
 replace HF:=Lib.hid (fun y (hy:Below z51.heap.size z51 y)=>And.intro (keepO hy ho_) (HF.out y (below_of hb hy)));have hz51:=Lib.hid hz51_;clear hb ho_ hz51_;go_wp2_with fail
 rw[←hz51.out];clear hz51;refine(mill_rd z51).mono ?_;rintro e z52 ⟨⟨A,A2,c2,rfl,hr,ho⟩,hb⟩;have HM:=Lib.hid (fun y (hy:Below z52.heap.size z52 y)=>And.intro ((hr.below hy).more hy.size) ((ho.below hy).more hy.size));replace HF:=Lib.hid (fun y (hy:Below z52.heap.size z52 y)=>HF.out y (below_of hb hy));clear hb hr ho;go_wp2_with fail
 refine(x22 A A2 c2 z52 (HM.out z52 (Below.refl _ _)).1 (HM.out z52 (Below.refl _ _)).2 (HF.out z52 (Below.refl _ _)).2.2.2.2.2.2.2.2.2.2.2.2.2.2.2.2.2.2.1).mono ?_;rintro e z53 ⟨⟨A1_22,n1_22,c1_22,A3_22,n2_22,c3_22,rfl⟩,hb⟩;replace HF:=Lib.hid (fun y (hy:Below z53.heap.size z53 y)=>HF.out y (below_of hb hy));clear hb HM;obtain⟨z54,hz54_⟩:∃y,y=z53.alloc (.cells #[.slice A1_22 n1_22 c1_22,.slice A3_22 n2_22 c3_22] 25):=⟨_,rfl⟩;have hb:Below z53.heap.size z53 z54:=by rw[hz54_];exact(Below.refl _ _).alloc (Nat.le_refl _) _
 have ho_:z54.heap[z53.heap.size]? = some (.cells #[.slice A1_22 n1_22 c1_22,.slice A3_22 n2_22 c3_22] 25 (0,0)):=by rw[hz54_];exact heap_alloc_new _ _
 replace HF:=Lib.hid (fun y (hy:Below z54.heap.size z54 y)=>And.intro (keepO hy ho_) (HF.out y (below_of hb hy)));have hz54:=Lib.hid hz54_;clear hb ho_ hz54_;go_wp2_with fail
 rw[←hz54.out];clear hz54;refine(mill_rd z54).mono ?_;rintro e z55 ⟨⟨A,A2,c2,rfl,hr,ho⟩,hb⟩;have HM:=Lib.hid (fun y (hy:Below z55.heap.size z55 y)=>And.intro ((hr.below hy).more hy.size) ((ho.below hy).more hy.size));replace HF:=Lib.hid (fun y (hy:Below z55.heap.size z55 y)=>HF.out y (below_of hb hy));clear hb hr ho;go_wp2_with fail
 refine(x23 A A2 c2 z55 (HM.out z55 (Below.refl _ _)).1 (HM.out z55 (Below.refl _ _)).2 (HF.out z55 (Below.refl _ _)).2.2.2.2.2.2.2.2.2.2.2.2.2.2.2.2.2.2.2.1).mono ?_;rintro e z56 ⟨⟨A1_23,n1_23,c1_23,A3_23,n2_23,c3_23,rfl⟩,hb⟩;replace HF:=Lib.hid (fun y (hy:Below z56.heap.size z56 y)=>HF.out y (below_of hb hy));clear hb HM;obtain⟨z57,hz57_⟩:∃y,y=z56.alloc (.cells #[.slice A1_23 n1_23 c1_23,.slice A3_23 n2_23 c3_23] 25):=⟨_,rfl⟩;have hb:Below z56.heap.size z56 z57:=by rw[hz57_];exact(Below.refl _ _).alloc (Nat.le_refl _) _
 have ho_:z57.heap[z56.heap.size]? = some (.cells #[.slice A1_23 n1_23 c1_23,.slice A3_23 n2_23 c3_23] 25 (0,0)):=by rw[hz57_];exact heap_alloc_new _ _
 replace HF:=Lib.hid (fun y (hy:Below z57.heap.size z57 y)=>And.intro (keepO hy ho_) (HF.out y (below_of hb hy)));have hz57:=Lib.hid hz57_;clear hb ho_ hz57_;go_wp2_with fail
 rw[←hz57.out];clear hz57;refine(mill_rd z57).mono ?_;rintro e z58 ⟨⟨A,A2,c2,rfl,hr,ho⟩,hb⟩;have HM:=Lib.hid (fun y (hy:Below z58.heap.size z58 y)=>And.intro ((hr.below hy).more hy.size) ((ho.below hy).more hy.size));replace HF:=Lib.hid (fun y (hy:Below z58.heap.size z58 y)=>HF.out y (below_of hb hy));clear hb hr ho;go_wp2_with fail
 refine(x24 A A2 c2 z58 (HM.out z58 (Below.refl _ _)).1 (HM.out z58 (Below.refl _ _)).2 (HF.out z58 (Below.refl _ _)).2.2.2.2.2.2.2.2.2.2.2.2.2.2.2.2.2.2.2.2.1).mono ?_;rintro e z59 ⟨⟨A24,m24,c24,rfl⟩,hb⟩;replace HF:=Lib.hid (fun y (hy:Below z59.heap.size z59 y)=>HF.out y (below_of hb hy));clear hb HM;obtain⟨o0,o1,-,-⟩:=two_facts (HF.out z59 (Below.refl _ _)).2.2.2.2.2.2.2.2.2.2.2.1;go_wp2_with fail
 clear o0 o1;refine(x25 (some ⟨p,0,none⟩) O2 oc z59 (rd_cel (HF.out z59 (Below.refl _ _)).2.2.2.2.2.2.2.2.2.2.2.2.2.1 rfl) (HF.out z59 (Below.refl _ _)).2.2.2.2.2.2.2.2.2.2.2.2.1 (HF.out z59 (Below.refl _ _)).2.2.2.2.2.2.2.2.2.2.2.2.2.2.2.2.2.2.2.2.1).mono ?_;rintro e z60 ⟨rfl,hb⟩;replace HF:=Lib.hid (fun y (hy:Below z60.heap.size z60 y)=>HF.out y (below_of hb hy));clear hb;go_wp2_with fail
 refine(mill_rd z60).mono ?_;rintro e z61 ⟨⟨A,A2,c2,rfl,hr,ho⟩,hb⟩;have HM:=Lib.hid (fun y (hy:Below z61.heap.size z61 y)=>And.intro ((hr.below hy).more hy.size) ((ho.below hy).more hy.size));replace HF:=Lib.hid (fun y (hy:Below z61.heap.size z61 y)=>HF.out y (below_of hb hy));clear hb hr ho;go_wp2_with fail
 refine(x26 A A2 c2 z61 (HM.out z61 (Below.refl _ _)).1 (HM.out z61 (Below.refl _ _)).2 (HF.out z61 (Below.refl _ _)).2.2.2.2.2.2.2.2.2.2.2.2.2.2.2.2.2.2.2.2.1).mono ?_;rintro e z62 ⟨rfl,hb⟩;replace HF:=Lib.hid (fun y (hy:Below z62.heap.size z62 y)=>HF.out y (below_of hb hy));clear hb HM;have HE:=Lib.hid (HF.out z62 (Below.refl _ _)).2.2.2.2.2.2.2.2.2.2.2.2.2.2.2.2.2.2.2.2.2;clear HF;go_wp2;go_ret;exact⟨rfl,HE.out⟩
end Go.Proofs.YtfplipbkjglmhaaDoor
