/-
 The walk of the program's question whether a press is valid: over its table of checks.
-/
import Derived.Test.YtfplipbkjglmhaaDoorPChk3
import Derived.Laws.EntriesVeiled
import Derived.Laws.Rows
namespace Go.Proofs.YtfplipbkjglmhaaDoor
open Go.RowKit
set_option linter.unusedVariables false
set_option linter.unusedSimpArgs false
/-- The table of checks lies in memory as its initialiser lays it. -/
def Laid (w:World):Prop:=w.cell? ⟨0,0,none⟩=some (.func (.func 137) #[] #[])∧w.cell? ⟨0,1,none⟩=some (.func (.func 138) #[] #[])∧w.cell? ⟨0,2,none⟩=some (.func (.func 139) #[] #[])∧0<w.heap.size
theorem Laid.below{B:Nat}{w w':World}(h:Laid w)(hb:Below B w w')(hB:0<B):Laid w':=
 ⟨(hb.cell (p:=⟨0,0,none⟩) hB).trans h.1,(hb.cell (p:=⟨0,1,none⟩) hB).trans h.2.1,(hb.cell (p:=⟨0,2,none⟩) hB).trans h.2.2.1,Nat.lt_of_lt_of_le h.2.2.2 hb.size⟩
def validP (ps:List PR) (ws:List WE):Bool:=(decide (ps.length≤10) && decide (ws.length≤30)) && allP ps && allW ps 0 ws
def checkS (ps:List PR) (ws:List WE):Int:=if validP ps ws then 0 else 20
set_option maxRecDepth 100000 in
theorem check1_any(A A':Option Addr)(n c n' c':Nat)(w:World) :
  Calls Tryd.prog 137 #[.agg #[.slice A n c,.slice A' n' c']] w fun e w'=>e = .returned (.bool (decide (n≤10) && decide (n'≤30)))∧Below w.heap.size w w':=by
 by_cases h1:n≤10
 ·by_cases h2:n'≤30
  ·have r:(decide (n≤10) && decide (n'≤30))=true:=(by simp[h1,h2]);rw[r];have g1:(n:Int)≤10:=(by omega);have g2:(n':Int)≤30:=(by omega);clear r h1 h2
   go_enter Tryd.func137,Tryd.ntmps137
   go_wp2;go_ret;exact⟨ret_bool (by simp[g1,g2]),(Below.refl _ _).alloc (Nat.le_refl _) _⟩
  ·have r:(decide (n≤10) && decide (n'≤30))=false:=(by simp[h2]);rw[r];have g1:(n:Int)≤10:=(by omega);have g2:¬(n':Int)≤30:=(by omega);clear r h1 h2
   go_enter Tryd.func137,Tryd.ntmps137
   go_wp2;go_ret;exact⟨ret_bool (by simp[g1,g2]),(Below.refl _ _).alloc (Nat.le_refl _) _⟩
 ·have r:(decide (n≤10) && decide (n'≤30))=false:=(by simp[h1]);rw[r];have g1:¬(n:Int)≤10:=(by omega);clear r h1
  go_enter Tryd.func137,Tryd.ntmps137
  go_wp2;go_ret;exact⟨ret_bool (by simp[g1]),(Below.refl _ _).alloc (Nat.le_refl _) _⟩
set_option maxRecDepth 100000 in
set_option maxHeartbeats 1000000 in
theorem Check_any(A A':Option Addr)(n c n' c':Nat)(ps:List PR)(ws:List WE)(w:World)(hR:Reads w w.heap.size 4 A n (pgs ps))(hW:Reads w w.heap.size 5 A' n' (wgs ws))(hL:Laid w) :
  Calls Tryd.prog 50 #[.agg #[.slice A n c,.slice A' n' c']] w fun e w'=>e = .returned (.int .i64 (checkS ps ws))∧Below w.heap.size w w':=by
 have i0:∀w,(Instr.index 150 (.agg #[.func (.func 137) #[] #[],.func (.func 138) #[] #[],.func (.func 139) #[] #[]]) (.int .i64 0)).run Tryd.prog w = .ok (.agg #[.func (.func 137) #[] #[]]) w:=fun _=>by kernel_rfl
 have i1:∀w,(Instr.index 150 (.agg #[.func (.func 137) #[] #[],.func (.func 138) #[] #[],.func (.func 139) #[] #[]]) (.int .i64 1)).run Tryd.prog w = .ok (.agg #[.func (.func 138) #[] #[]]) w:=fun _=>by kernel_rfl
 have i2:∀w,(Instr.index 150 (.agg #[.func (.func 137) #[] #[],.func (.func 138) #[] #[],.func (.func 139) #[] #[]]) (.int .i64 2)).run Tryd.prog w = .ok (.agg #[.func (.func 139) #[] #[]]) w:=fun _=>by kernel_rfl
 obtain⟨L0,L1,L2,L3⟩:=hL;have hl:=Lib.hid hR.pg_len;have hl':=Lib.hid hW.wg_len;have HM:Hid (∀z,Below (w.heap.size+1) (w.alloc (.cells #[.slice A n c,.slice A' n' c'] 25)) z→z.cell? ⟨w.heap.size,0,none⟩=some (.slice A n c)∧z.cell? ⟨w.heap.size,1,none⟩=some (.slice A' n' c')∧w.heap.size+1≤z.heap.size):=fun z hz=>press_box hz;have HR:Hid (∀z,Below (w.heap.size+1) (w.alloc (.cells #[.slice A n c,.slice A' n' c'] 25)) z→Reads z z.heap.size 4 A n (pgs ps)):=fun z hz=>keep_reads hR hz;have HRw:Hid (∀z,Below (w.heap.size+1) (w.alloc (.cells #[.slice A n c,.slice A' n' c'] 25)) z→Reads z z.heap.size 5 A' n' (wgs ws)):=fun z hz=>keep_reads hW hz;have HX:Hid (∀z,Below (w.heap.size+1) (w.alloc (.cells #[.slice A n c,.slice A' n' c'] 25)) z→Below w.heap.size w z):=fun z hz=>box_below hz;have hX0:Hid (Below (w.heap.size+1) (w.alloc (.cells #[.slice A n c,.slice A' n' c'] 25)) ((w.alloc (.cells #[.slice A n c,.slice A' n' c'] 25)).alloc (.cells #[.func (.func 137) #[] #[]] 149))):=(Below.refl _ _).alloc (by simp) _;clear hR hW;cases h1:(decide (n≤10) && decide (n'≤30))
 ·have hf:Hid (checkS ps ws=20):=(by show checkS ps ws=20;unfold checkS validP;rw[hl.out,hl'.out,h1];rfl);have h1':=Lib.hid h1;clear h1
  go_enter Tryd.func50,Tryd.ntmps50
  (go_wp2_with fail);refine wp_loop_rounds 4 ?_;rw[rounds_succ];(go_wp2_with fail);generalize hwb:w.alloc (.cells #[.slice A n c,.slice A' n' c'] 25)=wb at *;refine(check1_any A A' n c n' c' _).mono ?_;rw[h1'.out];rintro e w1 ⟨rfl,hb⟩;have hX1:=Lib.hid (below_via hX0.out (HM.out _ hX0.out).2.2 hb);clear hb;go_wp2;go_ret;exact⟨ret_int hf.out.symm,HX.out _ hX1.out⟩
 ·have hn:n≤10:=(by simp at h1;omega);have hn':n'≤30:=(by simp at h1;omega);have h1':=Lib.hid h1;have hs:Hid (checkS ps ws=if allP ps && allW ps 0 ws then 0 else 20):=(by show checkS ps ws=_;unfold checkS validP;rw[hl.out,hl'.out,h1,Bool.true_and]);clear h1
  go_enter Tryd.func50,Tryd.ntmps50
  (go_wp2_with fail);refine wp_loop_rounds 4 ?_;rw[rounds_succ];(go_wp2_with fail);generalize hwb:w.alloc (.cells #[.slice A n c,.slice A' n' c'] 25)=wb at *;refine(check1_any A A' n c n' c' _).mono ?_;rw[h1'.out];rintro e w1 ⟨rfl,hb⟩;have hX1:=Lib.hid (below_via hX0.out (HM.out _ hX0.out).2.2 hb);clear hb;have H2:=Lib.hid (fun z (hz:Below (w.heap.size+1) wb z)=>check2_any A A' n c n' c' ps z hn (HR.out z hz));have H3:=Lib.hid (fun z (hz:Below (w.heap.size+1) wb z)=>check3_any A A' n c n' c' ps ws z hn hn' (HR.out z hz) (HRw.out z hz));have HA:=Lib.hid (fun(z:World) (o:Obj) (hz:Below (w.heap.size+1) wb z)=>((hz.alloc (HM.out z hz).2.2 o):Below (w.heap.size+1) wb (z.alloc o)));have HMA:=Lib.hid (fun(z:World) (o:Obj) (hz:Below (w.heap.size+1) wb z)=>HM.out _ (HA.out z o hz));have m0:∀o,(w1.alloc o).cell? ⟨w.heap.size,0,none⟩=some (.slice A n c):=fun o=>(HMA.out w1 o hX1.out).1
  have m1:∀o,(w1.alloc o).cell? ⟨w.heap.size,1,none⟩=some (.slice A' n' c'):=fun o=>(HMA.out w1 o hX1.out).2.1
  (go_wp2_with fail);rw[rounds_succ];(go_wp2_with fail);have hX2:=Lib.hid (HA.out w1 (.cells #[.func (.func 138) #[] #[]] 149) hX1.out);refine(H2.out _ hX2.out).mono ?_;rintro e w2 ⟨rfl,hb2⟩;have hX3:=Lib.hid (below_via hX2.out (HM.out _ hX2.out).2.2 hb2);clear hb2 m0 m1;cases h2:allP ps
  ·have hf:Hid (checkS ps ws=20):=(by show _=_;rw[hs.out,h2];rfl);clear hs h2;go_wp2;go_ret;exact⟨ret_int hf.out.symm,HX.out _ hX3.out⟩
  ·have m0:∀o,(w2.alloc o).cell? ⟨w.heap.size,0,none⟩=some (.slice A n c):=fun o=>(HMA.out w2 o hX3.out).1
   have m1:∀o,(w2.alloc o).cell? ⟨w.heap.size,1,none⟩=some (.slice A' n' c'):=fun o=>(HMA.out w2 o hX3.out).2.1
   (go_wp2_with fail);rw[rounds_succ];(go_wp2_with fail);have hX4:=Lib.hid (HA.out w2 (.cells #[.func (.func 139) #[] #[]] 149) hX3.out);refine(H3.out _ hX4.out).mono ?_;rintro e w3 ⟨rfl,hb3⟩;have hX5:=Lib.hid (below_via hX4.out (HM.out _ hX4.out).2.2 hb3);clear hb3 m0 m1;cases h3:allW ps 0 ws
   ·have hf:Hid (checkS ps ws=20):=(by show _=_;rw[hs.out,h2,h3];rfl);clear hs h2 h3;go_wp2;go_ret;exact⟨ret_int hf.out.symm,HX.out _ hX5.out⟩
   ·have hf:Hid (checkS ps ws=0):=(by show _=_;rw[hs.out,h2,h3];rfl);clear hs h2 h3;(go_wp2_with fail);rw[rounds_succ];go_wp2;go_ret;exact⟨ret_int hf.out.symm,HX.out _ hX5.out⟩
end Go.Proofs.YtfplipbkjglmhaaDoor
