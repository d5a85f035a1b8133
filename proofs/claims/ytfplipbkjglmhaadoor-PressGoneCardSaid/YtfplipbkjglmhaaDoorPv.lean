/-
 The walk of whether a list is a truth: the program's.
-/
import Derived.Test.YtfplipbkjglmhaaDoorTk
import Derived.Test.YtfplipbkjglmhaaDoorSmW
import Derived.DeepKeys
namespace Go.Proofs.YtfplipbkjglmhaaDoor
open Go.RowKit
set_option linter.unusedVariables false
set_option linter.unusedSimpArgs false
theorem facts7{w:World}{b:Nat}{t:TypeId}{v0 v1 v2 v3 v4 v5 v6:Value}(h:w.heap[b]? = some (.cells #[v0,v1,v2,v3,v4,v5,v6] t (0,0))) :
  w.cell? ⟨b,0,none⟩=some v0∧w.cell? ⟨b,1,none⟩=some v1∧w.cell? ⟨b,2,none⟩=some v2∧w.cell? ⟨b,3,none⟩=some v3∧w.cell? ⟨b,4,none⟩=some v4∧w.cell? ⟨b,5,none⟩=some v5∧w.cell? ⟨b,6,none⟩=some v6:=by
 refine⟨?_,?_,?_,?_,?_,?_,?_⟩<;>simp[World.cell?,h]
theorem item_eq{xs ys:Array Value}{j:Nat}{is:List Nat}{x y:Int}(w:World)(h1:xs[j]? = some (.int .i64 x))(h2:ys[j]? = some (.int .i64 y)) :
  (Op.eqItems 9999 3 1 xs ys (j::is)).run Tryd.prog w=if x=y then(Op.eqItems 9999 3 1 xs ys is).run Tryd.prog w else .ok false w:=by
 have hp:∀(xs:Array Value) (v:Value),xs[j]? = some v→(part 3 xs j).run Tryd.prog w = .ok v w:=fun xs v h=>run_part_plain w (by kernel_rfl) h;have he:∀(x y:Int),(Op.equalIn 9999 3 (.int .i64 x) (.int .i64 y)).run Tryd.prog w = .ok (x==y) w:=fun x y=>run_equalIn_int w 9998 _ .i64 _ x y Tryd.underlying3;simp only[Op.eqItems,Nat.mul_one,Sem.run_bind,hp xs _ h1,hp ys _ h2,Result.andThen_ok,he];by_cases h:x=y
 ·rw[if_pos h];simp[h]
 ·rw[if_neg h];simp[h]
theorem eq_arr7(a X Y c d e f g:Int)(w:World) :
  (Op.equalIn 10000 41 (.agg #[.int .i64 a,.int .i64 X,.int .i64 c,.int .i64 d,.int .i64 e,.int .i64 f,.int .i64 g]) (.agg #[.int .i64 a,.int .i64 Y,.int .i64 c,.int .i64 d,.int .i64 e,.int .i64 f,.int .i64 g])).run Tryd.prog w = .ok (X==Y) w:=by
 obtain⟨i0,hi,hz0,hz1,hz2⟩:=info_parts info_int;have hc:Tryd.prog.cellsOf 3=1:=by kernel_rfl
 rw[show (10000:Nat)=9999+1 from rfl,run_equalIn_array (n:=7) (e:=3) w 9999 _ _ (by kernel_rfl) hi,hc,show List.range 7 = [0,1,2,3,4,5,6] from rfl];rw[item_eq w rfl rfl,if_pos rfl,item_eq w rfl rfl];by_cases h:X=Y
 ·rw[if_pos h,item_eq w rfl rfl,if_pos rfl,item_eq w rfl rfl,if_pos rfl,item_eq w rfl rfl,if_pos rfl,item_eq w rfl rfl,if_pos rfl,item_eq w rfl rfl,if_pos rfl];simp[Op.eqItems,h]
 ·rw[if_neg h];simp[h]
theorem make_ints(n:Nat)(hn:n≤4096)(w:World):(Instr.makeSlice 46 (.int .i64 n) (.int .i64 n)).run Tryd.prog w = .ok (.slice (some ⟨w.heap.size,0,none⟩) n n) (w.alloc (.cells (madeCells #[.int .i64 0] n) 3)):=by
 obtain⟨i0,hi,hz0,hz1,hz2⟩:=info_parts info_int;have:=run_make w 46 3 i0 _ Tryd.underlying46 hi hz0 .i64 .i64 n n (by omega) (by omega) (by rw[hz2];omega) (by omega);rw[this,hz1];simp[Value.cells]
def inL (n:Nat) (t:Nat→Option Nat) (l:List (Nat→Int)) (a:Nat):List Int:=(List.range n).map fun j=>inF2 t l j a
theorem inL_get(n:Nat)(t:Nat→Option Nat)(l:List (Nat→Int))(a:Nat){j:Nat}(hj:j<n):(ints (inL n t l a))[j]? = some (.int .i64 (inF2 t l j a)):=by
 simp[ints,inL,List.getElem?_range hj]
theorem inL_none{n:Nat}{t:Nat→Option Nat}{l:List (Nat→Int)}{a:Nat}(h:t a=none):inL n t l (a+1)=inL n t l a:=by
 unfold inL;simp[inF2,h]
theorem inL_some{n:Nat}{t:Nat→Option Nat}{l:List (Nat→Int)}{a k:Nat}(h:t a=some k)(hk:k<n):ints (inL n t l (a+1))=(ints (inL n t l a)).set k (.int .i64 (inF2 t l k a+atF l a 7)):=by
 refine List.ext_getElem? fun j=>?_;rcases Nat.lt_or_ge j n with hj|hj
 ·rw[inL_get n t l (a+1) hj,List.getElem?_set];by_cases e:k=j
  ·subst e;rw[if_pos rfl,if_pos (by simp[ints,inL];exact hk)];simp[inF2,h]
  ·rw[if_neg e,inL_get n t l a hj];have:¬t a=some j:=fun h2=>e (by rw[h] at h2;exact Option.some.inj h2);simp[inF2,this]
 ·rw[List.getElem?_eq_none (by simp[ints,inL];exact hj),List.getElem?_eq_none (by simp[ints,inL];exact hj)]
theorem inL_0(n:Nat)(t:Nat→Option Nat)(l:List (Nat→Int)):ints (inL n t l 0)=List.replicate n (.int .i64 0):=by
 refine List.ext_getElem? fun j=>?_;rcases Nat.lt_or_ge j n with hj|hj
 ·rw[inL_get n t l 0 hj];simp[inF2,hj]
 ·rw[List.getElem?_eq_none (by simp[ints,inL];exact hj),List.getElem?_eq_none (by simp;exact hj)]
theorem val_bad{ps:List PR}{ws:List WE}{l:List (Nat→Int)}(h:¬(l.length=ps.length∧∀i,i<ps.length→rowF ps ws l i∧balF ps l i)):valB ps ws l=false:=by
 unfold valB;rw[tru_no h];simp
/-- The state while a list is looked through by the program. -/
structure PV_ (w:World) (A A':Option Addr) (n c n' c':Nat) (ps:List PR) (ws:List WE) (l:List (Nat→Int)) (mb:Nat) (At:Option Addr) (ct g cr ib a:Nat) (z:World):Prop where
 b0:z.heap[w.heap.size]? = some (.cells #[.slice A n c,.slice A' n' c'] 25 (0,0))
 mo:∃Au cu gI,MO z mb n (.slice A n c) (.slice A' n' c') (toT ps) (rowsT ps ws) At (some ⟨g,0,none⟩) Au ct cr cu gI
 own:z.ownsRow ib 3 1 (.slice (some ⟨ib,0,none⟩) n n) n (ints (inL n (toT ps) l a))
 ap:∀q,Value.ownBlock (.slice At n ct)=some q→q≠ib
 bel:Below w.heap.size w z
 l1:w.heap.size<mb
 l2:mb<ib
section
variable {w z y:World} {A A':Option Addr} {n c n' c':Nat} {ps:List PR} {ws:List WE} {l:List (Nat→Int)} {mb:Nat} {At:Option Addr} {ct g cr ib a:Nat}
theorem PV_.below(h:PV_ w A A' n c n' c' ps ws l mb At ct g cr ib a z)(hb:Below z.heap.size z y):PV_ w A A' n c n' c' ps ws l mb At ct g cr ib a y:=by
 obtain⟨Au,cu,gI,hM⟩:=h.mo;exact⟨keepO hb h.b0,⟨Au,cu,gI,hM.below hb⟩,ownR_below h.own hb,h.ap,below_via h.bel h.bel.size hb,h.l1,h.l2⟩
theorem PV_.next(h:PV_ w A A' n c n' c' ps ws l mb At ct g cr ib a z)(ht:toT ps a=none):PV_ w A A' n c n' c' ps ws l mb At ct g cr ib (a+1) z:=⟨h.b0,h.mo,by rw[inL_none ht];exact h.own,h.ap,h.bel,h.l1,h.l2⟩
theorem PV_.put(h:PV_ w A A' n c n' c' ps ws l mb At ct g cr ib a z){k:Nat}(ht:toT ps a=some k)(hk:k<n):PV_ w A A' n c n' c' ps ws l mb At ct g cr ib (a+1) (z.setCell ⟨ib,k,none⟩ (.int .i64 (inF2 (toT ps) l k a+atF l a 7))):=by
 obtain⟨Au,cu,gI,hM⟩:=h.mo;have h1:=h.l1;have h2:=h.l2;obtain⟨q1,q2⟩:=h.own.stored k (.int .i64 (inF2 (toT ps) l k a+atF l a 7));have hio:∃cs,z.heap[ib]? = some (.cells cs 3 (0,0)):=by
  rcases h.own.2 with ⟨h0,-⟩|⟨g1,cap1,cur1,h4,-,h5,-⟩
  ·cases h0
  ·simp only[Value.slice.injEq,Option.some.injEq,Addr.mk.injEq,and_true,true_and] at h4;obtain⟨rfl,rfl⟩:=h4;exact⟨_,h5⟩
 obtain⟨cs,hio⟩:=hio;have hy:∀q:Nat,q≠ib→(z.setCell ⟨ib,k,none⟩ (.int .i64 (inF2 (toT ps) l k a+atF l a 7))).heap[q]? = z.heap[q]?:=fun q hq=>Below.heap_setCell _ _ _ _ hq;refine⟨(hy _ (by omega)).trans h.b0,⟨Au,cu,gI,hM.block (by omega) h.ap (ownR_ne hM.rows hio) (ownR_ne hM.up hio) (hM.into.blk hio) hy⟩,by rw[inL_some ht hk];exact q1,h.ap,h.bel.setCell (by simp only;omega) _,h1,h2⟩
end
set_option maxRecDepth 100000 in
set_option maxHeartbeats 8000000 in
theorem pValid_any(A A' Al:Option Addr)(n c n' c' m cl:Nat)(ps:List PR)(ws:List WE)(l:List (Nat→Int))(w:World)(hR:Reads w w.heap.size 4 A n (pgs ps))(hW:Reads w w.heap.size 5 A' n' (wgs ws))(hL:Reads w w.heap.size 8 Al m (wds l))(hm20:m≤4096)(hLd:Laid w) :
  Calls Tryd.prog 40 #[.agg #[.slice A n c,.slice A' n' c'],.slice Al m cl] w fun e w'=>e = .returned (.tuple #[.bool (valB ps ws l),.int .i64 (checkS ps ws)])∧Below w.heap.size w w':=by
 have hl:ps.length=n:=hR.pg_len;have hll:l.length=m:=wds_len hL;have HRd:=Lib.hid (fun z (hz:Below w.heap.size w z)=>(hR.below hz).more hz.size);have HLd:=Lib.hid (fun z (hz:Below w.heap.size w z)=>(hL.below hz).more hz.size);have HP0:=Lib.hid (PX.start (c:=c) (c':=c') hR hW hLd);have HCk:=Lib.hid (fun z (hz:PX w A A' n c n' c' ps ws z)=>Check_any A A' n c n' c' ps ws z hz.rp hz.rw_ hz.laid);have HSt:=Lib.hid (fun z (hz:PX w A A' n c n' c' ps ws z) hv=>started_any A A' n c n' c' ps ws z hz.rp hz.rw_ hv);clear hR hW hL hLd
 go_enter Tryd.func40,Tryd.ntmps40
 go_wp2_with fail
 refine(HCk.out _ HP0.out).mono ?_;rintro e z1 ⟨rfl,hb1⟩;have HP1:=Lib.hid (HP0.out.below hb1);clear hb1;cases hv:validP ps ws
 ·have hs:Hid (valB ps ws l=false∧checkS ps ws=20):=(by show _∧_;unfold valB checkS;rw[hv];exact⟨rfl,rfl⟩);rw[show checkS ps ws=20 from hs.out.2];clear hv hl hll;go_wp2;exact bodyPost_ret (v:=.tuple #[.bool false,.int .i64 20]) (by simp[results,Tryd.results40,go_sem]) rfl ⟨by rw[hs.out.1,hs.out.2],HP1.out.bel⟩
 ·have hc0:Hid (checkS ps ws=0):=(by show _=_;unfold checkS;rw[hv];rfl);rw[hc0.out];have hVF:=valid_facts hv;have hn:n≤10:=(by have:=hVF.n10;omega);have hFw:=hVF.fwd;rw[hl] at hFw;have hvh:=Lib.hid hv;have hFh:=Lib.hid hFw;have hVh:=Lib.hid hVF;obtain⟨p0,p1⟩:=HP1.out.cells;clear hFw hVF hv;(go_wp2_with fail);refine(HSt.out _ HP1.out hvh.out).mono ?_;rintro e z5 ⟨rfl,hb5,At,Ar,Au,ct,cr,cu,gI,hMO⟩;have HP5:=Lib.hid (HP1.out.below hb5);have hlt1:w.heap.size<z1.heap.size+1:=(by have:=(Array.getElem?_eq_some_iff.1 HP1.out.b0).1;omega);have HMO:=Lib.hid hMO;have hm3:z5.cell? ⟨z1.heap.size+1,3,none⟩=some (.slice Ar n cr):=(by simp[World.cell?,hMO.m]);clear hb5 hMO p0 p1;generalize z1.heap.size+1=mb at *;by_cases hmn:m=n
  ·subst hmn;have hmb:((m:Int) != (m:Int))=false:=(by simp);have hmk:=make_ints m hm20;by_cases hm0:m=0
   ·subst hm0;have hres:Hid (valB ps ws l=true):=(by show _=_;unfold valB;rw[hvh.out,tru_yes (ps:=ps) (ws:=ws) (l:=l) ⟨by omega,fun i hi=>by omega⟩];rfl);have hmk:∀w,(Instr.makeSlice 46 (.int .i64 0) (.int .i64 0)).run Tryd.prog w = .ok (.slice (some ⟨w.heap.size,0,none⟩) 0 0) (w.alloc (.cells (madeCells #[.int .i64 0] 0) 3)):=make_ints 0 (by omega);have hb6:=Lib.hid (below_via HP5.out.bel HP5.out.bel.size ((Below.refl z5.heap.size z5).alloc (Nat.le_refl _) (.cells (madeCells #[.int .i64 0] 0) 3)));clear hl hll;(go_wp2_with fail);go_loopw [36] (fun v wq=>v = .int .i64 0∧Hid (Below w.heap.size w wq)) (fun _ _=>0)
    case atStart=>exact⟨rfl,hb6⟩
    case round=>
     obtain⟨rfl,hB0⟩:=hrel;go_wp2;exact bodyPost_ret (v:=.tuple #[.bool true,.int .i64 0]) (by simp[results,Tryd.results40,go_sem]) rfl ⟨by rw[hres.out,hc0.out],hB0.out⟩
   obtain⟨g,cr',he,-,-⟩:=World.ownsRow.form HMO.out.rows (by omega);simp only[Value.slice.injEq,true_and] at he;obtain⟨rfl,rfl⟩:=he;obtain⟨ga,ca,he2,-,-⟩:=World.ownsRow.form HMO.out.to_ (by omega);simp only[Value.slice.injEq,true_and] at he2;obtain⟨rfl,rfl⟩:=he2;have hPV0:Hid (PV_ w A A' m c n' c' ps ws l mb (some ⟨ga,0,none⟩) ct g cr z5.heap.size 0 (z5.alloc (.cells (madeCells #[.int .i64 0] m) 3))):=by
    have hb:=(Below.refl z5.heap.size z5).alloc (Nat.le_refl _) (.cells (madeCells #[.int .i64 0] m) 3);refine⟨keepO hb HP5.out.b0,⟨_,_,_,HMO.out.below hb⟩,?_,fun q hq=>by have:=(ownR_lt HMO.out.to_ hq).2;omega,below_via HP5.out.bel HP5.out.bel.size hb,hlt1,(Array.getElem?_eq_some_iff.1 HMO.out.m).1⟩;have:=World.ownsRow_lit (base:=z5.heap.size) (e:=3) (size:=1) z5 (madeCells #[.int .i64 0] m) m (Nat.le_refl _) (by unfold maxLen;omega) (by rw[size_madeCells];omega);rw[toList_madeCells_one,←inL_0 m (toT ps) l] at this;exact this
   have hlh:=Lib.hid hl;have hllh:=Lib.hid hll;clear hl hll HMO HP5;(go_wp2_with fail);clear hm3;generalize (z5.alloc (.cells (madeCells #[.int .i64 0] m) 3))=z6 at *;generalize z5.heap.size=ib at *;go_loopw [36] (fun v wq=>∃wl,wl=wq∧∃i:Nat,i≤m∧v = .int .i64 i∧Hid (∀j,j<i→rowF ps ws l j∧balF ps l j)∧Hid (PV_ w A A' m c n' c' ps ws l mb (some ⟨ga,0,none⟩) ct g cr ib i wl)) (fun v _=>m - (intOf v).toNat)
   case atStart=>exact⟨_,rfl,0,by omega,rfl,fun j h=>absurd h (by omega),hPV0⟩
   case round=>
    clear hPV0;obtain⟨wq,rfl,i,him,rfl,hall,hPr⟩:=hrel;by_cases hin:i<m
    ·have hii:(i:Int)<(m:Int):=(by omega);have ii0:(0:Int)≤(i:Int):=(by omega);obtain⟨bp,op,I,D,P,T,rfl,hbp,hx,x0,-,-,-⟩:=(HRd.out _ hPr.out.bel).pg hin;obtain⟨bl,ol,f,rfl,hbl,hf,hfc⟩:=(HLd.out _ hPr.out.bel).wd hin;have hat:Hid (atF l i=f):=(by show _=_;unfold atF;rw[hf]);have hid_:Hid (idO ps i=I):=(by show _=_;unfold idO;rw[hx]);have d0:wq.cell? ⟨bl,ol+i*8,none⟩=some (.int .i64 (f 0)):=hfc 0 (by omega);have d1:=hfc 1 (by omega);have d2:=hfc 2 (by omega);have d3:=hfc 3 (by omega);have d4:=hfc 4 (by omega);have d5:=hfc 5 (by omega);have d6:=hfc 6 (by omega);have d7:=hfc 7 (by omega);obtain⟨za,hza⟩:∃za,za=wq.alloc (.cells #[.int .i64 (f 0),.int .i64 (f 1),.int .i64 (f 2),.int .i64 (f 3),.int .i64 (f 4),.int .i64 (f 5),.int .i64 (f 6),.int .i64 (f 7)] 43):=⟨_,rfl⟩;have hba:Below wq.heap.size wq za:=(by rw[hza];exact(Below.refl _ _).alloc (Nat.le_refl _) _);have hWB:za.heap[wq.heap.size]? = some (.cells #[.int .i64 (f 0),.int .i64 (f 1),.int .i64 (f 2),.int .i64 (f 3),.int .i64 (f 4),.int .i64 (f 5),.int .i64 (f 6),.int .i64 (f 7)] 43 (0,0)):=(by rw[hza];exact heap_alloc_new _ _);have hx0:=(hba.cell (p:=⟨bp,op+i*4,none⟩) hbp).trans x0;have hPa:=hPr.out.below hba;have hzah:=Lib.hid hza;have hb0:=keepO hba hPr.out.b0;have hxz:Hid (wq.heap.size≤wq.heap.size):=Nat.le_refl _;have hPb:Hid (Below w.heap.size w wq):=hPr.out.bel;clear hx hf hfc x0 hza;(go_wp2_with fail);clear d0 d1 d2 d3 d4 d5 d6 d7;rw[←hzah.out];clear hzah;obtain⟨w0,w1,-,-,-,-,-,-⟩:=facts8 hWB
     obtain⟨p0,-,-,-⟩:=two_facts hb0;clear hb0;by_cases hI:f 0=I
     ·have hIb:(f 0 != I)=false:=(by simpa using hI);by_cases h1:f 1=0
      ·have h1b:(f 1 != 0)=false:=(by simpa using h1);have h1h:=Lib.hid h1;have hIh:=Lib.hid hI;clear h1 hI;(go_quiet (fail));rename_i nq;clear w0 w1 p0 hx0;have hXq:=Lib.hid (below_drewN hba nq);have hWq:Hid ((za.drewN nq).heap[wq.heap.size]? = some (.cells #[.int .i64 (f 0),.int .i64 (f 1),.int .i64 (f 2),.int .i64 (f 3),.int .i64 (f 4),.int .i64 (f 5),.int .i64 (f 6),.int .i64 (f 7)] 43 (0,0))):=hWB;have hPq:=Lib.hid (hPa.below (below_drewN (Below.refl _ _) nq));clear hba hWB hPa;generalize za.drewN nq=zb at *;obtain⟨Au2,cu2,gI2,hM2⟩:=hPq.out.mo;have hm3:zb.cell? ⟨mb,3,none⟩=some (.slice (some ⟨g,0,none⟩) m cr):=(by simp[World.cell?,hM2.m]);have hrw:=fun j (hj:j<7)=>hM2.at_ hin hj;have r0:zb.cell? ⟨g,i*14,none⟩=some (.int .i64 (rowsT ps ws i 0).1):=(hrw 0 (by omega)).1;have r1:zb.cell? ⟨g,i*14+1,none⟩=some (.int .i64 (rowsT ps ws i 0).2):=(hrw 0 (by omega)).2.1;have r2:zb.cell? ⟨g,i*14+2,none⟩=some (.int .i64 (rowsT ps ws i 1).1):=(hrw 1 (by omega)).1;have r3:zb.cell? ⟨g,i*14+3,none⟩=some (.int .i64 (rowsT ps ws i 1).2):=(hrw 1 (by omega)).2.1;have r4:zb.cell? ⟨g,i*14+4,none⟩=some (.int .i64 (rowsT ps ws i 2).1):=(hrw 2 (by omega)).1;have r5:zb.cell? ⟨g,i*14+5,none⟩=some (.int .i64 (rowsT ps ws i 2).2):=(hrw 2 (by omega)).2.1;have r6:zb.cell? ⟨g,i*14+6,none⟩=some (.int .i64 (rowsT ps ws i 3).1):=(hrw 3 (by omega)).1;have r7:zb.cell? ⟨g,i*14+7,none⟩=some (.int .i64 (rowsT ps ws i 3).2):=(hrw 3 (by omega)).2.1;have r8:zb.cell? ⟨g,i*14+8,none⟩=some (.int .i64 (rowsT ps ws i 4).1):=(hrw 4 (by omega)).1
       have r9:zb.cell? ⟨g,i*14+9,none⟩=some (.int .i64 (rowsT ps ws i 4).2):=(hrw 4 (by omega)).2.1;have r10:zb.cell? ⟨g,i*14+10,none⟩=some (.int .i64 (rowsT ps ws i 5).1):=(hrw 5 (by omega)).1;have r11:zb.cell? ⟨g,i*14+11,none⟩=some (.int .i64 (rowsT ps ws i 5).2):=(hrw 5 (by omega)).2.1;have r12:zb.cell? ⟨g,i*14+12,none⟩=some (.int .i64 (rowsT ps ws i 6).1):=(hrw 6 (by omega)).1;have r13:zb.cell? ⟨g,i*14+13,none⟩=some (.int .i64 (rowsT ps ws i 6).2):=(hrw 6 (by omega)).2.1;clear hrw hM2;(go_wp2_with fail);clear hm3 r0 r1 r2 r3 r4 r5 r6 r7 r8 r9 r10 r11 r12 r13;generalize hwbe_:wq.heap.size=wb at *;have hxz:Hid (wb≤wq.heap.size):=(by show _≤_;omega);have hwbs:Hid (w.heap.size≤wb):=(by show _≤_;have:=hPb.out.size;omega);have hwbe:=Lib.hid hwbe_;clear hwbe_;go_loopw [63] (fun v wx=>∃wl,wl=wx∧∃k:Nat,k≤7∧v = .int .i64 k∧Hid (∀q,1≤q→q<k→okF ps ws l i q)∧Hid (Below wb wq wl)∧Hid (wl.heap[wb]? = some (.cells #[.int .i64 (f 0),.int .i64 (f 1),.int .i64 (f 2),.int .i64 (f 3),.int .i64 (f 4),.int .i64 (f 5),.int .i64 (f 6),.int .i64 (f 7)] 43 (0,0)))) (fun v _=>7 - (intOf v).toNat)
       case atStart=>exact⟨_,rfl,0,by omega,rfl,fun q h h2=>absurd h2 (by omega),hXq,hWq⟩
       case round=>
        clear hXq hWq;obtain⟨wx,rfl,k,hk7,rfl,hok,hX0,hW0⟩:=hrel;by_cases hk6:k<7
        ·have k70:(k:Int)<7:=(by omega);have k00:(0:Int)≤(k:Int):=(by omega);have hix:∀w,(Instr.index 107 (.agg #[.int .i64 (rowsT ps ws i 0).1,.int .i64 (rowsT ps ws i 0).2,.int .i64 (rowsT ps ws i 1).1,.int .i64 (rowsT ps ws i 1).2,.int .i64 (rowsT ps ws i 2).1,.int .i64 (rowsT ps ws i 2).2,.int .i64 (rowsT ps ws i 3).1,.int .i64 (rowsT ps ws i 3).2,.int .i64 (rowsT ps ws i 4).1,.int .i64 (rowsT ps ws i 4).2,.int .i64 (rowsT ps ws i 5).1,.int .i64 (rowsT ps ws i 5).2,.int .i64 (rowsT ps ws i 6).1,.int .i64 (rowsT ps ws i 6).2]) (.int .i64 k)).run Tryd.prog w = .ok (.agg #[.int .i64 (rowsT ps ws i k).1,.int .i64 (rowsT ps ws i k).2]) w:=by
          rcases (by omega:k=0∨k=1∨k=2∨k=3∨k=4∨k=5∨k=6) with rfl|rfl|rfl|rfl|rfl|rfl|rfl<;>exact fun _=>by kernel_rfl
         obtain⟨wz,hwz⟩:∃wz,wz=wx.alloc (.cells #[.int .i64 (rowsT ps ws i k).1,.int .i64 (rowsT ps ws i k).2] 36):=⟨_,rfl⟩;have hbz:Below wx.heap.size wx wz:=(by rw[hwz];exact(Below.refl _ _).alloc (Nat.le_refl _) _);have hO:wz.heap[wx.heap.size]? = some (.cells #[.int .i64 (rowsT ps ws i k).1,.int .i64 (rowsT ps ws i k).2] 36 (0,0)):=(by rw[hwz];exact heap_alloc_new _ _);have hX:=hX0.out.trans (hbz.mono (Nat.le_trans hxz.out hX0.out.size));have hWb:=keepO hbz hW0.out;have hsb:=(Array.getElem?_eq_some_iff.1 hO).1;have hwbl:=(Array.getElem?_eq_some_iff.1 hWb).1;have c0:wz.cell? ⟨wb,1+k,none⟩=some (.int .i64 (f (1+k))):=by
          rcases (by omega:k=0∨k=1∨k=2∨k=3∨k=4∨k=5∨k=6) with rfl|rfl|rfl|rfl|rfl|rfl|rfl<;>simp[World.cell?,hWb]
         obtain⟨s0,s1,-,-⟩:=two_facts hO;have hwzh:=Lib.hid hwz;have hbzh:=Lib.hid hbz;have hXh:=Lib.hid hX;have hWh:=Lib.hid hWb;have hOh:=Lib.hid hO;clear hbz hwz hX0 hW0 hX hWb hO c0 s0 s1 hsb hwbl;(go_wp2_with fail);rw[←hwzh.out];clear hwzh hbzh hix;generalize wx.heap.size=sb at *;have hX:=hXh.out;have hWb:=hWh.out;obtain⟨s0,s1,-,-⟩:=two_facts hOh.out;have hsb:=(Array.getElem?_eq_some_iff.1 hOh.out).1;have hwbl:=(Array.getElem?_eq_some_iff.1 hWb).1;have c0:wz.cell? ⟨wb,1+k,none⟩=some (.int .i64 (f (1+k))):=by
          rcases (by omega:k=0∨k=1∨k=2∨k=3∨k=4∨k=5∨k=6) with rfl|rfl|rfl|rfl|rfl|rfl|rfl<;>simp[World.cell?,hWb]
         clear hXh hWh hOh;by_cases hokk:(rowsT ps ws i k).1≤f (1+k)∧f (1+k)≤(rowsT ps ws i k).2
         ·have hin_:Hid (inB (rowsT ps ws i k).1 (rowsT ps ws i k).2 [f (1+k)]=true):=(by show _=_;simp[inB,hokk.1,hokk.2]);have hkn:Hid (∀q,1≤q→q<k+1→okF ps ws l i q):=fun q h1 h2=>by
           by_cases e:q=k
           ·subst e;unfold okF;rw[hat.out];exact hokk
           ·exact hok.out q h1 (by omega)
          clear hokk hok;have HQ:=Lib.hid (fun w' (hz:Hid (Kp wz.heap.size [] wz w'))=>(⟨(hz.out.cell (by simp only;omega) (by simp;try omega)).trans c0,(hz.out.cell (by simp only;omega) (by simp;try omega)).trans s0,(hz.out.cell (by simp only;omega) (by simp;try omega)).trans s1⟩:w'.cell? ⟨wb,1+k,none⟩=some (.int .i64 (f (1+k)))∧w'.cell? ⟨sb,0,none⟩=some (.int .i64 (rowsT ps ws i k).1)∧w'.cell? ⟨sb,1,none⟩=some (.int .i64 (rowsT ps ws i k).2)));obtain⟨S,hSd⟩:∃S:World→Prop,S=fun w'=>(w'.cell? ⟨wb,1+k,none⟩=some (.int .i64 (f (1+k)))∧w'.cell? ⟨sb,0,none⟩=some (.int .i64 (rowsT ps ws i k).1)∧w'.cell? ⟨sb,1,none⟩=some (.int .i64 (rowsT ps ws i k).2))∧Hid (Kp wz.heap.size [] wz w'):=⟨_,rfl⟩
          have HS:=Lib.hid (fun w' (hz:Hid (Kp wz.heap.size [] wz w'))=>(by rw[hSd];exact⟨HQ.out w' hz,hz⟩:S w'));clear c0 s0 s1;refine wp_region_held_drew (S:=S) (by kernel_rfl) ?_ (fun hHeld=>?_)
          ·exact HS.out _ (Lib.hid (Kp.refl _ _ _).drew)
          have hKyd:Hid (Kp wz.heap.size [] wz wz.drew):=Lib.hid (Kp.refl _ _ _).drew;have hSyd:wz.heap.size≤wz.drew.heap.size:=Nat.le_refl _;have hX:=hX.drew;have hWb:=keepO (Below.refl wz.heap.size wz).drew hWb;generalize wz.drew=yd at *;refine tY (v:=?_) 0 67 ?_ ?_;rotate_left
          ·intro w hSw;rw[hSd] at hSw;obtain⟨⟨q0,q1,q2⟩,-⟩:=hSw;go_simp;(try with_reducible rfl)
          (try simp only[N0]);refine tY (v:=?_) 1 68 ?_ ?_;rotate_left
          ·intro w hSw;rw[hSd] at hSw;obtain⟨⟨q0,q1,q2⟩,-⟩:=hSw;go_simp;(try with_reducible rfl)
          (try simp only[N0]);refine tY (v:=?_) 2 69 ?_ ?_;rotate_left
          ·intro w hSw;rw[hSd] at hSw;obtain⟨⟨q0,q1,q2⟩,-⟩:=hSw;go_simp;(try with_reducible rfl)
          (try simp only[N0]);refine tY (v:=?_) 3 70 ?_ ?_;rotate_left
          ·intro w hSw;rw[hSd] at hSw;obtain⟨⟨q0,q1,q2⟩,-⟩:=hSw;go_simp;(try with_reducible rfl)
          (try simp only[N0]);refine tY (v:=?_) 4 71 ?_ ?_;rotate_left
          ·intro w hSw;rw[hSd] at hSw;obtain⟨⟨q0,q1,q2⟩,-⟩:=hSw;go_simp;(try with_reducible rfl)
          (try simp only[N0]);refine tY (v:=?_) 5 72 ?_ ?_;rotate_left
          ·intro w hSw;rw[hSd] at hSw;obtain⟨⟨q0,q1,q2⟩,-⟩:=hSw;go_simp;(try with_reducible rfl)
          (try simp only[N0]);refine tY (v:=?_) 6 73 ?_ ?_;rotate_left
          ·intro w hSw;rw[hSd] at hSw;obtain⟨⟨q0,q1,q2⟩,-⟩:=hSw;go_simp;(try with_reducible rfl)
          (try simp only[N0]);refine tY (v:=?_) 7 74 ?_ ?_;rotate_left
          ·intro w hSw;rw[hSd] at hSw;obtain⟨⟨q0,q1,q2⟩,-⟩:=hSw;go_simp;(try with_reducible rfl)
          (try simp only[N0]);refine wpAnyH_ready (rs:=[8]) (by kernel_rfl) (by simp) ?_;refine AllReadyH.cons (o:=_) rfl (fun Kq hK=>?_) AllReadyH.nil;go_simp;have hL:=Lib.hid (rd_one (t:=3) (heap_alloc_new yd (.cells #[.int .i64 (f (1+k))] 3)));have hbA:=(Below.refl yd.heap.size yd).alloc (Nat.le_refl _) (.cells #[.int .i64 (f (1+k))] 3);have hKb8yd:=Lib.hid (hKyd.out.alloc hSyd (.cells #[.int .i64 (f (1+k))] 3));have hSb8yd:=Nat.le_trans hSyd hbA.size;have hX:=hX.trans (hbA.mono (Nat.le_trans hxz.out hX.size));have hWb:=keepO hbA hWb;clear hbA;generalize hnb:yd.heap.size=nbk at *;generalize (yd.alloc (.cells #[.int .i64 (f (1+k))] 3))=b8yd at *;clear hnb;refine hK.out _ _ ?_ (fun hHeld=>?_)
          ·exact HS.out _ hKb8yd
          clear hK Kq;(try simp only[N0]);refine wpAnyH_ready (rs:=[9]) (by kernel_rfl) (by simp) ?_;refine AllReadyH.cons (o:=_) rfl (fun Kq hK=>?_) AllReadyH.nil;go_simp;refine(in_any (rowsT ps ws i k).1 (rowsT ps ws i k).2 (some ⟨nbk,0,none⟩) 1 1 [f (1+k)] b8yd (by unfold maxLen;omega) hL.out).mono ?_;rintro e c9b8yd ⟨rfl,hb⟩;have hKc9b8yd:=Lib.hid (hKb8yd.out.call hSb8yd hb);have hSc9b8yd:=Nat.le_trans hSb8yd hb.size;have hX:=hX.trans (hb.mono (Nat.le_trans hxz.out hX.size));have hWb:=keepO hb hWb;clear hb;rw[hin_.out];(try go_simp);refine hK.out _ _ ?_ (fun hHeld=>?_)
          ·exact HS.out _ hKc9b8yd
          clear hK Kq;(try simp only[N0]);refine tY (v:=?_) 10 77 ?_ ?_;rotate_left
          ·intro w hSw;rw[hSd] at hSw;obtain⟨⟨q0,q1,q2⟩,-⟩:=hSw;go_simp;(try with_reducible rfl)
          (try simp only[N0]);refine wpAnyH_done (by kernel_rfl) ?_ _;clear HS HQ hSd;have hXn:=Lib.hid hX;have hWn:=Lib.hid hWb;clear hX hWb hL;generalize c9b8yd=wy at *;go_wp2;go_roundw
          case rel=>exact⟨_,rfl,k+1,by omega,by go_num,hkn,hXn,hWn⟩
          case measure=>simp[intOf]<;>omega
         ·have hin_:Hid (inB (rowsT ps ws i k).1 (rowsT ps ws i k).2 [f (1+k)]=false):=by
           show _=_;simp only[inB,List.all_cons,List.all_nil,Bool.and_true];by_cases a:(rowsT ps ws i k).1≤f (1+k)
           ·have b:¬f (1+k)≤(rowsT ps ws i k).2:=fun b=>hokk ⟨a,b⟩;simp[a,b]
           ·simp[a]
          have hres:Hid (valB ps ws l=false):=val_bad (fun h=>by
           by_cases e:k=0
           ·subst e;have e0:rowsT ps ws i 0=(0,1000000):=by have:=rows_zero hVh.out i ws.length;rw[List.take_length] at this;exact this
            apply hokk
            rw[e0];show (0:Int)≤f 1∧f 1≤1000000;rw[h1h.out];omega
           ·have:=(h.2 i (by have:=hlh.out;omega)).1.2.2 k (by omega) hk6;unfold okF at this;rw[hat.out] at this
            exact hokk this)
          clear hokk hok;have HQ:=Lib.hid (fun w' (hz:Hid (Kp wz.heap.size [] wz w'))=>(⟨(hz.out.cell (by simp only;omega) (by simp;try omega)).trans c0,(hz.out.cell (by simp only;omega) (by simp;try omega)).trans s0,(hz.out.cell (by simp only;omega) (by simp;try omega)).trans s1⟩:w'.cell? ⟨wb,1+k,none⟩=some (.int .i64 (f (1+k)))∧w'.cell? ⟨sb,0,none⟩=some (.int .i64 (rowsT ps ws i k).1)∧w'.cell? ⟨sb,1,none⟩=some (.int .i64 (rowsT ps ws i k).2)));obtain⟨S,hSd⟩:∃S:World→Prop,S=fun w'=>(w'.cell? ⟨wb,1+k,none⟩=some (.int .i64 (f (1+k)))∧w'.cell? ⟨sb,0,none⟩=some (.int .i64 (rowsT ps ws i k).1)∧w'.cell? ⟨sb,1,none⟩=some (.int .i64 (rowsT ps ws i k).2))∧Hid (Kp wz.heap.size [] wz w'):=⟨_,rfl⟩
          have HS:=Lib.hid (fun w' (hz:Hid (Kp wz.heap.size [] wz w'))=>(by rw[hSd];exact⟨HQ.out w' hz,hz⟩:S w'));clear c0 s0 s1;refine wp_region_held_drew (S:=S) (by kernel_rfl) ?_ (fun hHeld=>?_)
          ·exact HS.out _ (Lib.hid (Kp.refl _ _ _).drew)
          have hKyd:Hid (Kp wz.heap.size [] wz wz.drew):=Lib.hid (Kp.refl _ _ _).drew;have hSyd:wz.heap.size≤wz.drew.heap.size:=Nat.le_refl _;have hX:=hX.drew;have hWb:=keepO (Below.refl wz.heap.size wz).drew hWb;generalize wz.drew=yd at *;refine tY (v:=?_) 0 67 ?_ ?_;rotate_left
          ·intro w hSw;rw[hSd] at hSw;obtain⟨⟨q0,q1,q2⟩,-⟩:=hSw;go_simp;(try with_reducible rfl)
          (try simp only[N0]);refine tY (v:=?_) 1 68 ?_ ?_;rotate_left
          ·intro w hSw;rw[hSd] at hSw;obtain⟨⟨q0,q1,q2⟩,-⟩:=hSw;go_simp;(try with_reducible rfl)
          (try simp only[N0]);refine tY (v:=?_) 2 69 ?_ ?_;rotate_left
          ·intro w hSw;rw[hSd] at hSw;obtain⟨⟨q0,q1,q2⟩,-⟩:=hSw;go_simp;(try with_reducible rfl)
          (try simp only[N0]);refine tY (v:=?_) 3 70 ?_ ?_;rotate_left
          ·intro w hSw;rw[hSd] at hSw;obtain⟨⟨q0,q1,q2⟩,-⟩:=hSw;go_simp;(try with_reducible rfl)
          (try simp only[N0]);refine tY (v:=?_) 4 71 ?_ ?_;rotate_left
          ·intro w hSw;rw[hSd] at hSw;obtain⟨⟨q0,q1,q2⟩,-⟩:=hSw;go_simp;(try with_reducible rfl)
          (try simp only[N0]);refine tY (v:=?_) 5 72 ?_ ?_;rotate_left
          ·intro w hSw;rw[hSd] at hSw;obtain⟨⟨q0,q1,q2⟩,-⟩:=hSw;go_simp;(try with_reducible rfl)
          (try simp only[N0]);refine tY (v:=?_) 6 73 ?_ ?_;rotate_left
          ·intro w hSw;rw[hSd] at hSw;obtain⟨⟨q0,q1,q2⟩,-⟩:=hSw;go_simp;(try with_reducible rfl)
          (try simp only[N0]);refine tY (v:=?_) 7 74 ?_ ?_;rotate_left
          ·intro w hSw;rw[hSd] at hSw;obtain⟨⟨q0,q1,q2⟩,-⟩:=hSw;go_simp;(try with_reducible rfl)
          (try simp only[N0]);refine wpAnyH_ready (rs:=[8]) (by kernel_rfl) (by simp) ?_;refine AllReadyH.cons (o:=_) rfl (fun Kq hK=>?_) AllReadyH.nil;go_simp;have hL:=Lib.hid (rd_one (t:=3) (heap_alloc_new yd (.cells #[.int .i64 (f (1+k))] 3)));have hbA:=(Below.refl yd.heap.size yd).alloc (Nat.le_refl _) (.cells #[.int .i64 (f (1+k))] 3);have hKb8yd:=Lib.hid (hKyd.out.alloc hSyd (.cells #[.int .i64 (f (1+k))] 3));have hSb8yd:=Nat.le_trans hSyd hbA.size;have hX:=hX.trans (hbA.mono (Nat.le_trans hxz.out hX.size));have hWb:=keepO hbA hWb;clear hbA;generalize hnb:yd.heap.size=nbk at *;generalize (yd.alloc (.cells #[.int .i64 (f (1+k))] 3))=b8yd at *;clear hnb;refine hK.out _ _ ?_ (fun hHeld=>?_)
          ·exact HS.out _ hKb8yd
          clear hK Kq;(try simp only[N0]);refine wpAnyH_ready (rs:=[9]) (by kernel_rfl) (by simp) ?_;refine AllReadyH.cons (o:=_) rfl (fun Kq hK=>?_) AllReadyH.nil;go_simp;refine(in_any (rowsT ps ws i k).1 (rowsT ps ws i k).2 (some ⟨nbk,0,none⟩) 1 1 [f (1+k)] b8yd (by unfold maxLen;omega) hL.out).mono ?_;rintro e c9b8yd ⟨rfl,hb⟩;have hKc9b8yd:=Lib.hid (hKb8yd.out.call hSb8yd hb);have hSc9b8yd:=Nat.le_trans hSb8yd hb.size;have hX:=hX.trans (hb.mono (Nat.le_trans hxz.out hX.size));have hWb:=keepO hb hWb;clear hb;rw[hin_.out];(try go_simp);refine hK.out _ _ ?_ (fun hHeld=>?_)
          ·exact HS.out _ hKc9b8yd
          clear hK Kq;(try simp only[N0]);refine tY (v:=?_) 10 77 ?_ ?_;rotate_left
          ·intro w hSw;rw[hSd] at hSw;obtain⟨⟨q0,q1,q2⟩,-⟩:=hSw;go_simp;(try with_reducible rfl)
          (try simp only[N0]);refine wpAnyH_done (by kernel_rfl) ?_ _;clear HS HQ hSd;have hXn:=Lib.hid (hPb.out.trans (hX.mono hwbs.out));clear hX hWb hL;generalize c9b8yd=wy at *;go_wp2;exact bodyPost_ret (v:=.tuple #[.bool false,.int .i64 0]) (by simp[results,Tryd.results40,go_sem]) rfl ⟨by rw[hres.out,hc0.out],hXn.out⟩
        ·obtain rfl:k=7:=(by omega);rw[show ((7:Nat):Int)=7 from rfl];have hrowi:Hid (rowF ps ws l i):=⟨by rw[hat.out,hid_.out];exact hIh.out,by rw[hat.out];exact h1h.out,fun q a b=>hok.out q a b⟩;have hP7:=Lib.hid (hPr.out.below (by have:=hX0.out;rw[←hwbe.out] at this;exact this));clear hok hPr hPq hX0;obtain⟨v0,v1,v2,v3,v4,v5,v6,v7⟩:=facts8 hW0.out;obtain⟨wo,hwo⟩:∃wo,wo=wx.alloc (.cells #[.int .i64 (f 1),.int .i64 (f 2),.int .i64 (f 3),.int .i64 (f 4),.int .i64 (f 5),.int .i64 (f 6),.int .i64 (f 7)] 41):=⟨_,rfl⟩;have hbo:Below wx.heap.size wx wo:=(by rw[hwo];exact(Below.refl _ _).alloc (Nat.le_refl _) _);have hWo:=keepO hbo hW0.out;have hOo:wo.heap[wx.heap.size]? = some (.cells #[.int .i64 (f 1),.int .i64 (f 2),.int .i64 (f 3),.int .i64 (f 4),.int .i64 (f 5),.int .i64 (f 6),.int .i64 (f 7)] 41 (0,0)):=(by rw[hwo];exact heap_alloc_new _ _);obtain⟨z0,z1_,z2,z3,z4,z5_,z6_,z7⟩:=facts8 hWo;obtain⟨o0,o1,o2,o3,o4,o5,o6⟩:=facts7 hOo;have hosz:wo.heap.size=wx.heap.size+1:=(by rw[hwo];simp);obtain⟨wt,hwt⟩:∃wt,wt=wo.alloc (.cells #[.int .i64 (f 0),.int .i64 (f 1),.int .i64 (f 2),.int .i64 (f 3),.int .i64 (f 4),.int .i64 (f 5),.int .i64 (f 6),.int .i64 (f 7)] 43):=⟨_,rfl⟩;have hbt:Below wo.heap.size wo wt:=(by rw[hwt];exact(Below.refl _ _).alloc (Nat.le_refl _) _);have hTt:wt.heap[wo.heap.size]? = some (.cells #[.int .i64 (f 0),.int .i64 (f 1),.int .i64 (f 2),.int .i64 (f 3),.int .i64 (f 4),.int .i64 (f 5),.int .i64 (f 6),.int .i64 (f 7)] 43 (0,0)):=by rw[hwt];exact heap_alloc_new _ _
         have hOt:=keepO hbt hOo;rw[hosz] at hTt;have hBt:Hid (Below wx.heap.size wx wt):=hbo.trans (hbt.mono hbo.size);have hTh:=Lib.hid hTt;have hOh:=Lib.hid hOt;rw[hwo] at z0 o0 o1 o2 o3 o4 o5 o6 hwt;have hwth:=Lib.hid hwt;clear hosz hbt hTt hOt hwt hwo hOo hWo hbo z1_ z2 z3 z4 z5_ z6_ z7 h1b hIb;(go_wp2_with fail);rw[←hwth.out];clear hwth z0 o0 o1 o2 o3 o4 o5 o6 v0 v1 v2 v3 v4 v5 v6 v7 hW0;have hib:ib<wx.heap.size:=(ownR_lt hP7.out.own rfl).2;obtain⟨J,hJ⟩:∃J,J=inF2 (toT ps) l i i:=⟨_,rfl⟩;have b3:0≤f 3∧f 3≤1000000:=(by have:=row_bd hVh.out hrowi.out (k:=2) (by omega) (by omega);rw[hat.out] at this;exact this);have b4:0≤f 4∧f 4≤1000000:=(by have:=row_bd hVh.out hrowi.out (k:=3) (by omega) (by omega);rw[hat.out] at this;exact this);have b5:0≤f 5∧f 5≤1000000:=(by have:=row_bd hVh.out hrowi.out (k:=4) (by omega) (by omega);rw[hat.out] at this;exact this);have b6:0≤f 6∧f 6≤1000000:=(by have:=row_bd hVh.out hrowi.out (k:=5) (by omega) (by omega);rw[hat.out] at this;exact this);have b7:0≤f 7∧f 7≤1000000:=(by have:=row_bd hVh.out hrowi.out (k:=6) (by omega) (by omega);rw[hat.out] at this;exact this);have bJ:0≤J∧J≤1000000*(i:Int):=(by rw[hJ];exact in_bd hVh.out (toT ps) i i (fun j hj=>(hall.out j hj).1));obtain⟨X,hX_⟩:∃X,X=f 3+f 4+f 5+f 6+f 7 - J:=⟨_,rfl⟩;have hXb:Hid (X=f 2↔balF ps l i):=by
          show _↔_;unfold balF;rw[←hJ];simp only[outF,hat.out];rw[hX_];show f 3+f 4+f 5+f 6+f 7 - J=f 2↔f 2+J - (0+f 3+f 4+f 5+f 6+f 7)=0;omega
         have e1:IntKind.i64.wrap (f 3+f 4)=f 3+f 4:=IntWalk.i64_in _ (by omega);have e2:IntKind.i64.wrap (f 3+f 4+f 5)=f 3+f 4+f 5:=IntWalk.i64_in _ (by omega);have e3:IntKind.i64.wrap (f 3+f 4+f 5+f 6)=f 3+f 4+f 5+f 6:=IntWalk.i64_in _ (by omega);have e4:IntKind.i64.wrap (f 3+f 4+f 5+f 6+f 7)=f 3+f 4+f 5+f 6+f 7:=IntWalk.i64_in _ (by omega);have e5:IntKind.i64.wrap (f 3+f 4+f 5+f 6+f 7 - J)=X:=(by rw[hX_];exact IntWalk.i64_in _ (by omega));have hPt:=Lib.hid (hP7.out.below hBt.out);have hci:wt.cell? ⟨ib,i,none⟩=some (.int .i64 J):=by
          rw[hJ];exact(hPt.out.own.cellAt i (by omega)).trans (inL_get m (toT ps) l i hin)
         obtain⟨a0,a1,a2,a3,a4,a5,a6⟩:=facts7 hOh.out;obtain⟨t0,t1,t2,t3,t4,t5,t6,t7⟩:=facts8 hTh.out;have tf:wt.frozen? ⟨wx.heap.size+1,2,none⟩=false:=(by simp[World.frozen?,hTh.out]);have hJh:=Lib.hid hJ;generalize hobe_:wx.heap.size=ob at *;have hobe:=Lib.hid hobe_;clear hobe_ hX_ hJ b3 b4 b5 b6 b7 bJ
         go_still_tail 20,(by kernel_rfl)
         change wpList _ _ _ _ _ wt.drew;obtain⟨we,hwe⟩:∃we,we=wt.drew.setCell ⟨ob+1,2,none⟩ (.int .i64 X):=⟨_,rfl⟩;have hBe:Below ob wx we:=(by rw[hwe];exact hBt.out.drew.setCell (by simp only;omega) _);have hPe:=Lib.hid (hP7.out.below (by rw[hobe.out];exact hBe));have hTd:wt.drew.heap[ob+1]? = some (.cells #[.int .i64 (f 0),.int .i64 (f 1),.int .i64 (f 2),.int .i64 (f 3),.int .i64 (f 4),.int .i64 (f 5),.int .i64 (f 6),.int .i64 (f 7)] 43 (0,0)):=hTh.out;have hTe:we.heap[ob+1]? = some (.cells #[.int .i64 (f 0),.int .i64 (f 1),.int .i64 X,.int .i64 (f 3),.int .i64 (f 4),.int .i64 (f 5),.int .i64 (f 6),.int .i64 (f 7)] 43 (0,0)):=(by rw[hwe];simp[World.setCell,Array.getElem?_modify,hTd]);have hOe:we.heap[ob]? = some (.cells #[.int .i64 (f 1),.int .i64 (f 2),.int .i64 (f 3),.int .i64 (f 4),.int .i64 (f 5),.int .i64 (f 6),.int .i64 (f 7)] 41 (0,0)):=(by rw[hwe];exact(Below.heap_setCell _ _ _ _ (by simp only;omega)).trans hOh.out);clear a0 a1 a2 a3 a4 a5 a6 hci t0 t1 t3 t4 t5 t6 t7;have t2:wt.drew.cell? ⟨ob+1,2,none⟩=some (.int .i64 (f 2)):=t2;have tf:wt.drew.frozen? ⟨ob+1,2,none⟩=false:=tf;obtain⟨a0,a1,a2,a3,a4,a5,a6⟩:=facts7 hOe;have u1:we.cell? ⟨ob+1,1,none⟩=some (.int .i64 (f 1)):=(by simp[World.cell?,hTe]);have u2:we.cell? ⟨ob+1,2,none⟩=some (.int .i64 X):=(by simp[World.cell?,hTe]);have u3:we.cell? ⟨ob+1,3,none⟩=some (.int .i64 (f 3)):=(by simp[World.cell?,hTe]);have u4:we.cell? ⟨ob+1,4,none⟩=some (.int .i64 (f 4)):=by simp[World.cell?,hTe]
         have u5:we.cell? ⟨ob+1,5,none⟩=some (.int .i64 (f 5)):=(by simp[World.cell?,hTe]);have u6:we.cell? ⟨ob+1,6,none⟩=some (.int .i64 (f 6)):=(by simp[World.cell?,hTe]);have u7:we.cell? ⟨ob+1,7,none⟩=some (.int .i64 (f 7)):=(by simp[World.cell?,hTe]);rw[hwe] at a0 a1 a2 a3 a4 a5 a6 u1 u2 u3 u4 u5 u6 u7;have hOeh:=Lib.hid hOe;have hweh:=Lib.hid hwe;clear hTe hOe hTd hBe hwe hBt hTh hOh hPt e1 e2 e3 e4 e5;generalize wt.drew=wd at *;by_cases hXe:X=f 2
         ·have hnx:Hid (∀j,j<i+1→rowF ps ws l j∧balF ps l j):=fun j hj=>by
           by_cases e:j=i
           ·subst e;exact⟨hrowi.out,hXb.out.1 hXe⟩
           ·exact hall.out j (by omega)
          have heq:∀w,(Op.equalIn 10000 41 (.agg #[.int .i64 (f 1),.int .i64 (X),.int .i64 (f 3),.int .i64 (f 4),.int .i64 (f 5),.int .i64 (f 6),.int .i64 (f 7)]) (.agg #[.int .i64 (f 1),.int .i64 (f 2),.int .i64 (f 3),.int .i64 (f 4),.int .i64 (f 5),.int .i64 (f 6),.int .i64 (f 7)])).run Tryd.prog w = .ok true w:=fun w=>by
           rw[eq_arr7,show (X==f 2)=true by simpa using hXe]
          clear hXe;obtain⟨Au3,cu3,gI3,hM3⟩:=hPe.out.mo;have hm1:we.cell? ⟨mb,2,none⟩=some (.slice (some ⟨ga,0,none⟩) m ct):=(by simp[World.cell?,hM3.m]);have htc:we.cell? ⟨ga,i,none⟩=some (.int .i64 (toV (toT ps) i)):=(hM3.to_.cellAt i (by omega)).trans (tos_g2 (toT ps) hin);rw[hweh.out] at hm1 htc;clear hM3 hXb;cases ht:toT ps i with
          |none=>
           have ev:toV (toT ps) i = -1:=(by unfold toV;rw[ht]);rw[ev] at htc;have hn0:¬((-1:Int)≥0):=(by omega);have hPn:=Lib.hid (hPe.out.next ht);clear ev ht;(go_wp2_with fail);rw[←hweh.out];go_roundw
           case rel=>exact⟨_,rfl,i+1,by omega,by go_num,hnx,hPn⟩
           case measure=>simp[intOf]<;>omega
          |some k=>
           have hk:=hFh.out i k hin ht;have ev:toV (toT ps) i=(k:Int):=(by unfold toV;rw[ht]);rw[ev] at htc;have hkm:(k:Int)<(m:Int):=(by omega);have hk0:(0:Int)≤(k:Int):=(by omega);obtain⟨K_,hK_⟩:∃K_,K_=inF2 (toT ps) l k i:=⟨_,rfl⟩;have bK:0≤K_∧K_≤1000000*(i:Int):=(by rw[hK_];exact in_bd hVh.out (toT ps) k i (fun j hj=>(hall.out j hj).1));have b7:0≤f 7∧f 7≤1000000:=(by have:=row_bd hVh.out hrowi.out (k:=6) (by omega) (by omega);rw[hat.out] at this;exact this);have e1:IntKind.i64.wrap (K_+f 7)=K_+f 7:=IntWalk.i64_in _ (by omega);have hci:we.cell? ⟨ib,k,none⟩=some (.int .i64 K_):=by
            rw[hK_];exact(hPe.out.own.cellAt k (by omega)).trans (inL_get m (toT ps) l i hk.2)
           have hcf:we.frozen? ⟨ib,k,none⟩=false:=hPe.out.own.frozenAt k;have hPn:Hid (PV_ w (some ⟨bp,op,none⟩) A' m c n' c' ps ws l mb (some ⟨ga,0,none⟩) ct g cr ib (i+1) (we.drew.setCell ⟨ib,k,none⟩ (.int .i64 (K_+f 7)))):=by
            have:=(hPe.out.below (Below.refl _ _).drew).put ht hk.2;rw[hat.out,←hK_] at this;exact this
           have hKh:=Lib.hid hK_;clear ev ht hK_ bK b7 hk;(go_wp2_with fail);rw[←hweh.out];clear hm1 htc a0 a1 a2 a3 a4 a5 a6 u1 u2 u3 u4 u5 u6 u7;obtain⟨a0,a1,a2,a3,a4,a5,a6⟩:=facts7 hOeh.out;clear a0 a1 a2 a3 a4 a5
           go_still_tail 7,(by kernel_rfl)
           change wpList _ _ _ _ _ we.drew;have hci:we.drew.cell? ⟨ib,k,none⟩=some (.int .i64 K_):=hci;have hcf:we.drew.frozen? ⟨ib,k,none⟩=false:=hcf;clear a6;generalize we.drew=wg at *;go_wp2;go_roundw
           case rel=>exact⟨_,rfl,i+1,by omega,by go_num,hnx,hPn⟩
           case measure=>simp[intOf]<;>omega
         ·have hres:=Lib.hid (val_bad (ps:=ps) (ws:=ws) (l:=l) (fun h=>hXe (hXb.out.2 (h.2 i (by have:=hlh.out;omega)).2)));have heq:∀w,(Op.equalIn 10000 41 (.agg #[.int .i64 (f 1),.int .i64 (X),.int .i64 (f 3),.int .i64 (f 4),.int .i64 (f 5),.int .i64 (f 6),.int .i64 (f 7)]) (.agg #[.int .i64 (f 1),.int .i64 (f 2),.int .i64 (f 3),.int .i64 (f 4),.int .i64 (f 5),.int .i64 (f 6),.int .i64 (f 7)])).run Tryd.prog w = .ok false w:=fun w=>by
           rw[eq_arr7,show (X==f 2)=false by simpa using hXe]
          clear hXe hXb;(go_wp2_with fail);rw[←hweh.out];exact bodyPost_ret (v:=.tuple #[.bool false,.int .i64 0]) (by simp[results,Tryd.results40,go_sem]) rfl ⟨by rw[hres.out,hc0.out],hPe.out.bel⟩
      ·have h1b:(f 1 != 0)=true:=(by simpa using h1);have hres:=Lib.hid (val_bad (ps:=ps) (ws:=ws) (l:=l) (fun h=>h1 (by have:=(h.2 i (by have:=hlh.out;omega)).1.2.1;rw[hat.out] at this;exact this)));have hXq:=Lib.hid (hPb.out.trans (hba.mono hPb.out.size));clear h1 hba hWB hPa;(go_quiet (fail));clear w0 w1 p0 hx0;go_wp2;exact bodyPost_ret (v:=.tuple #[.bool false,.int .i64 0]) (by simp[results,Tryd.results40,go_sem]) rfl ⟨by rw[hres.out,hc0.out],below_drewN hXq.out _⟩
     ·have hIb:(f 0 != I)=true:=(by simpa using hI);have hres:=Lib.hid (val_bad (ps:=ps) (ws:=ws) (l:=l) (fun h=>hI (by have:=(h.2 i (by have:=hlh.out;omega)).1.1;rw[hat.out,hid_.out] at this;exact this)));have hXq:=Lib.hid (hPb.out.trans (hba.mono hPb.out.size));clear hI hba hWB hPa;(go_quiet (fail));clear w0 w1 p0 hx0;go_wp2;exact bodyPost_ret (v:=.tuple #[.bool false,.int .i64 0]) (by simp[results,Tryd.results40,go_sem]) rfl ⟨by rw[hres.out,hc0.out],below_drewN hXq.out _⟩
    ·obtain rfl:i=m:=(by omega);have hnn:¬((i:Int)<(i:Int)):=(by omega);have hres:Hid (valB ps ws l=true):=by
      show _=_;unfold valB;rw[hvh.out,tru_yes (ps:=ps) (ws:=ws) (l:=l) ⟨by rw[hllh.out,hlh.out],fun j hj=>hall.out j (by have:=hlh.out;omega)⟩];rfl
     go_wp2;exact bodyPost_ret (v:=.tuple #[.bool true,.int .i64 0]) (by simp[results,Tryd.results40,go_sem]) rfl ⟨by rw[hres.out,hc0.out],hPr.out.bel⟩
  ·have hmb:((m:Int) != (n:Int))=true:=(by simp;omega);have hres:Hid (valB ps ws l=false):=val_bad (fun h=>by omega);clear hl hll;go_wp2;exact bodyPost_ret (v:=.tuple #[.bool false,.int .i64 0]) (by simp[results,Tryd.results40,go_sem]) rfl ⟨by rw[hres.out,hc0.out],HP5.out.bel⟩
end Go.Proofs.YtfplipbkjglmhaaDoor
