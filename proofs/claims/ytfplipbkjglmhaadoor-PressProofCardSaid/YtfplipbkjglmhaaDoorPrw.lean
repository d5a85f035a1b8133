/-
 The walk of PressProof: the law returns true, whatever the input.
-/
import Derived.Test.YtfplipbkjglmhaaDoorTk
import Derived.Test.YtfplipbkjglmhaaDoorPrL
import Derived.Test.YtfplipbkjglmhaaDoorRdy
import Derived.Test.YtfplipbkjglmhaaDoorAliv
namespace Go.Proofs.YtfplipbkjglmhaaDoor
open Go.RowKit
set_option linter.unusedVariables false
set_option linter.unusedSimpArgs false
/-- What stands while the prices that are told are looked at. -/
structure LP (w:World) (sb:Nat) (A A':Option Addr) (n c n' c':Nat) (ps:List PR) (ws:List WE) (Al:Option Addr) (m:Nat) (l:List Int) (sA:Sp) (z:World):Prop extends PX w A A' n c n' c' ps ws z where
 bs:z.heap[sb]? = some (.cells #[.int .i64 sA.1,.int .i64 sA.2] 36 (0,0))
 rl:Reads z z.heap.size 1 Al m (ints l)
theorem LP.under{w z y:World}{sb:Nat}{A A':Option Addr}{n c n' c':Nat}{ps:List PR}{ws:List WE}{Al:Option Addr}{m:Nat}{l:List Int}{sA:Sp}(h:LP w sb A A' n c n' c' ps ws Al m l sA z)(hb:Below z.heap.size z y):LP w sb A A' n c n' c' ps ws Al m l sA y:=
 ⟨h.toPX.below hb,keepO hb h.bs,(h.rl.below hb).more hb.size⟩
set_option maxRecDepth 100000 in
set_option maxHeartbeats 4000000 in
theorem law_proof(A A':Option Addr)(n c n' c':Nat)(ps:List PR)(ws:List WE)(kd bt:Nat)(w:World)(hkd:kd≤255)(hbt:bt≤65535)(hnm:n≤maxLen)(hnm':n'≤maxLen)
  (hR:Reads w w.heap.size 4 A n (pgs ps)) (hW:Reads w w.heap.size 5 A' n' (wgs ws)) (hL:Laid w) :
  Calls Tryd.prog 4 #[.agg #[.slice A n c,.slice A' n' c'],.int .u8 kd,.int .u16 bt] w fun e w'=>e = .returned (.bool true)∧Below w.heap.size w w':=by
 have hl:ps.length=n:=hR.pg_len;have hl':ws.length=n':=hW.wg_len;have HX0:=Lib.hid (PX.start (c:=c) (c':=c') hR hW hL);have HAl:=Lib.hid (fun z (K:PX w A A' n c n' c' ps ws z)=>alive_any z K.laid);have HRy:=Lib.hid (fun z (K:PX w A A' n c n' c' ps ws z)=>ready_any A A' n c n' c' ps ws z hnm hnm' K.rp K.rw_);have HKk:∃K:Nat,(K:Int)=1+(kd:Int)%5∧1≤K∧K≤5:=⟨1+kd%5,by omega,by omega,by omega⟩;obtain⟨K,hKe,hK1,hK5⟩:=HKk;have HC1:=Lib.hid (fun z (X:PX w A A' n c n' c' ps ws z)=>pAll_any A A' n c n' c' ps ws K z hnm X.rp X.rw_ X.laid);have HC2:=Lib.hid (fun z (X:PX w A A' n c n' c' ps ws z)=>pProof_any A A' n c n' c' ps ws K z hnm X.rp X.rw_ X.laid);clear hR hW hL;obtain⟨g,hg_⟩:∃g,g=(!(decide (20<n) || decide (50<n')) && validP ps ws):=⟨_,rfl⟩;rw[←hg_] at HRy;have hg:=Lib.hid hg_;clear hg_;have hk0:(0:Int)≤(kd:Int):=by omega
 have hk1:(kd:Int)≤255:=by omega
 have hb0:(0:Int)≤(bt:Int):=by omega
 have hb1:(bt:Int)≤65535:=by omega
 go_enter Tryd.func4,Tryd.ntmps4
 go_wp2_with fail
 refine(HAl.out _ HX0.out).mono ?_;rintro e z1 ⟨rfl,hb⟩;have HX1:=Lib.hid (HX0.out.below hb);clear hb HX0;obtain⟨p0,p1⟩:=HX1.out.cells;go_wp2_with fail
 clear p0 p1;refine(HRy.out _ HX1.out).mono ?_;rintro e z2 ⟨rfl,hb⟩;have HX2:=Lib.hid (HX1.out.below hb);clear hb HX1;cases g with
 |false=>
  go_wp2;go_ret;exact⟨rfl,HX2.out.bel⟩
 |true=>
 have hv:validP ps ws=true:=by have h:=hg.out;simp at h;exact h.2.symm ▸ rfl
 have hVF:=valid_facts hv;have hn10:n≤10:=by have:=hVF.n10;omega
 obtain⟨p0,p1⟩:=HX2.out.cells;go_wp2_with fail
 clear p0 p1;rw[←hKe];refine(HC1.out _ HX2.out).mono ?_;rintro e z3 ⟨rfl,hb⟩;have HX3:=Lib.hid (HX2.out.below hb);clear hb HX2;have hAE:allE ps ws K=if hasT ps ws then 0 else 8:=by unfold allE;rw[if_pos hv,if_pos (by simp[rng];omega)]
 obtain⟨sA,hsA_⟩:∃sA,sA=allS ps ws K:=⟨_,rfl⟩;obtain⟨l,hl_⟩:∃l,l=prpL ps ws K:=⟨_,rfl⟩;obtain⟨eA,heA_⟩:∃eA,eA=allE ps ws K:=⟨_,rfl⟩;rw[←hsA_,←heA_];rw[←heA_,←hl_] at HC2;obtain⟨y3,hy3_⟩:∃y3,y3=z3.alloc (.cells #[.int .i64 sA.1,.int .i64 sA.2] 36):=⟨_,rfl⟩;have hb:Below z3.heap.size z3 y3:=by rw[hy3_];exact(Below.refl _ _).alloc (Nat.le_refl _) _
 have HX4:=Lib.hid (HX3.out.below hb);have XS_:y3.heap[z3.heap.size]? = some (.cells #[.int .i64 sA.1,.int .i64 sA.2] 36 (0,0)):=by rw[hy3_];exact heap_alloc_new _ _
 obtain⟨sb,hsb_⟩:∃sb,sb=z3.heap.size:=⟨_,rfl⟩;rw[←hsb_] at XS_;have XS:=Lib.hid XS_;have hy3:=Lib.hid hy3_;have hsb:=Lib.hid hsb_;have hsA:=Lib.hid hsA_;have hlL:=Lib.hid hl_;have heA:=Lib.hid heA_;have hAEh:=Lib.hid hAE;clear hb hy3_ HX3 XS_ hsb_ hsA_ hl_ heA_ hAE;obtain⟨p0,p1⟩:=HX4.out.cells;rw[hy3.out] at p0 p1;go_wp2_with fail
 clear p0 p1;rw[←hy3.out,←hsb.out,←hKe];clear hy3 hsb;refine(HC2.out _ HX4.out).mono ?_;rintro e z5 ⟨⟨Al,m,cl,rfl,hm10,hq⟩,hb⟩;have HT_:LP w sb A A' n c n' c' ps ws Al m l sA z5:=⟨HX4.out.below hb,keepO hb XS.out,hq⟩;have HT:=Lib.hid HT_;clear hb hq HX4 XS HC1 HC2 HT_;cases ht:hasT ps ws with
 |false=>
  obtain rfl:eA=8:=(by rw[heA.out,hAEh.out,ht];rfl);clear heA hAEh;go_wp2;go_ret;exact⟨rfl,HT.out.bel⟩
 |true=>
 obtain rfl:eA=0:=by rw[heA.out,hAEh.out,ht];rfl
 have hA0:=heA.out.symm;obtain⟨j,hj,e1,e2,e3⟩:=prf_pick hA0;have hKN:(K:Int).toNat=K:=by omega
 rw[hKN] at e1 e2 e3;rw[←hlL.out] at e1 e3;rw[←hsA.out] at e2 e3;have hsg:sgP K 1=1∨sgP K 1 = -1:=by unfold sgP;split<;>simp
 have hL:l=(ixB j n).map (idQ ps):=by rw[e1];unfold idF;rw[hl];exact idsY_ixB _ (by omega) _ _
 rw[hl] at hj;have hlen:(ixB j n).length=m:=by
  have h:=HT.out.rl.len;rw[hL] at h;simpa using h
 obtain⟨NN,hNN⟩:∃x:Nat,x=2^n:=⟨_,rfl⟩;have hN10:NN≤1024:=by rw[hNN];exact Nat.le_trans (Nat.pow_le_pow_right (by decide) hn10) (by decide)
 have hN0:0<NN:=by rw[hNN];exact Nat.two_pow_pos _
 have HPg:=Lib.hid (fun i (hi:i<n) z (X:LP w sb A A' n c n' c' ps ws Al m l sA z)=>Pressing_any A A' n c n' c' ps (idQ ps i) z hnm X.rp);have hidx:=Lib.hid (fun i (hi:i<n)=>idx_idQ hVF (hl ▸ hi:i<ps.length));have hinc:=Lib.hid (fun i j' (hij:i<j') (hj':j'<n)=>idQ_inc hVF j' hij (hl ▸ hj':j'<ps.length));have hLh:=Lib.hid hL;have he1:=Lib.hid e1;have he2:=Lib.hid e2;have he3:=Lib.hid e3;have hsgh:=Lib.hid hsg;have hNh:=Lib.hid hNN;have hvh:=Lib.hid hv;have hlh:=Lib.hid hl;have hjh:=Lib.hid hj;have hlenh:=Lib.hid hlen;have hKeh:=Lib.hid hKe;have hm64:(m:Int)≤10:=by omega
 clear hL e1 e2 e3 hsg hNN hv hl hl' hj hVF hA0 ht hKN hlL hsA heA hAEh hg hlen hKe;go_wp2_with fail
 go_loopw [13,67] (fun v u wr=>∃wl,wl=wr∧∃t:Nat,t≤m∧v = .int .i64 ((sumB ((ixB j n).take t):Nat):Int)∧u = .int .i64 t∧Hid (LP w sb A A' n c n' c' ps ws Al m l sA wl)) (fun _ u _=>m - (intOf u).toNat)
 case atStart=>exact⟨_,rfl,0,Nat.zero_le _,rfl,rfl,HT⟩
 case round=>
  obtain⟨wq,rfl,t,ht,rfl,rfl,HQ⟩:=hrel;by_cases htm:t<m
  ·have hti:(t:Int)<(m:Int):=(by omega);have ht0:(0:Int)≤(t:Int):=(by omega);obtain⟨i,hi_⟩:∃i,(ixB j n)[t]? = some i:=⟨_,List.getElem?_eq_getElem (by rw[hlenh.out];exact htm)⟩;have hin:i<n:=ixB_lt (List.mem_of_getElem? hi_);obtain⟨b,o,hAl,hblt,hcell⟩:=HQ.out.rl.int htm;have hlt:l[t]?.getD 0=idQ ps i:=(by rw[hLh.out,List.getElem?_map,hi_];rfl);rw[hlt] at hcell;obtain⟨hs1,hs2⟩:=sumB_take hi_;obtain⟨sm,hsm⟩:∃x:Nat,x=sumB ((ixB j n).take t):=⟨_,rfl⟩;rw[←hsm] at hs1 hs2 ⊢;have hbor:=bor_bit hs1 (by omega:i<50);rw[←hs2] at hbor;obtain⟨pw,hpw_⟩:∃x:Int,x=(2:Int)^i:=⟨_,rfl⟩;have hpw2:IntKind.i64.wrap ((2:Int)^i)=pw:=by
    have hle:2^i≤2^10:=Nat.pow_le_pow_right (by decide) (by omega);have e:((2:Int)^i)=((2^i:Nat):Int):=(by simp);rw[hpw_,e,IntWalk.i64_in _ (by omega)]
   rw[←hpw_] at hbor;have hp0:=HQ.out.cells.1;have hp1:=HQ.out.cells.2;have hi0:(0:Int)≤(i:Int):=(by omega);have hi63:(i:Int)<64:=(by omega);subst hAl;have hsm':=Lib.hid hsm;have hs2':=Lib.hid hs2;clear hsm hs1 hs2 hpw_ hlt;(go_wp2_with fail);clear hp0 hp1;refine(HPg.out i hin _ HQ.out).mono ?_;rintro e z6 ⟨rfl,hb⟩;rw[hidx.out i hin];replace HQ:=Lib.hid (HQ.out.under hb);replace hcell:=(hb.cell (p:=⟨b,o+t,none⟩) hblt).trans hcell;clear hb;have hend:∀x:World,x=x:=fun _=>rfl;cases t with
   |zero=>
    clear hcell;go_wp2;go_roundw
    case rel=>exact⟨_,rfl,1,by omega,by rw[hs2'.out],by go_num,HQ⟩
    case measure=>simp[intOf];omega
   |succ t'=>
    obtain⟨i',hi'_⟩:∃i',(ixB j n)[t']? = some i':=⟨_,List.getElem?_eq_getElem (by rw[hlenh.out];omega)⟩;have hii:i'<i:=by
     have h:=List.pairwise_iff_getElem.1 (ixB_asc j n) t' (t'+1) (by rw[hlenh.out];omega) (by rw[hlenh.out];omega) (by omega);rw[(List.getElem?_eq_some_iff.1 hi'_).2,(List.getElem?_eq_some_iff.1 hi_).2] at h;exact h
    obtain⟨b2,o2,hA2,hblt2,hcell2⟩:=HQ.out.rl.int (show t'<m by omega);have hlt2:l[t']?.getD 0=idQ ps i':=(by rw[hLh.out,List.getElem?_map,hi'_];rfl);rw[hlt2] at hcell2;have hne:=hinc.out i' i hii hin;obtain⟨x',hx'⟩:∃x',x'=idQ ps i':=⟨_,rfl⟩;obtain⟨x,hx⟩:∃x,x=idQ ps i:=⟨_,rfl⟩;rw[←hx',←hx] at hne;rw[←hx'] at hcell2;rw[←hx];injection hA2 with hA3;injection hA3 with hb2 ho2;subst hb2 ho2;clear hcell hx hx' hlt2 hi'_;have hge:decide (x≤x')=false:=(by simp;omega);have hlt0:(0:Int)<(t':Int)+1:=(by omega);go_wp2;go_roundw
    case rel=>exact⟨_,rfl,t'+2,by omega,rfl,by go_num,HQ⟩
    case measure=>simp[intOf];omega
  ·obtain rfl:t=m:=(by omega);have hti:¬(t:Int)<(t:Int):=(by omega);have hset:Hid (sumB ((ixB j n).take t)=j):=by
    show _=_;rw[List.take_of_length_le (by rw[hlenh.out];omega),sumB_ixB,Nat.mod_eq_of_lt hjh.out]
   rw[hset.out];obtain⟨ob,hob_⟩:∃x:Nat,x=bt%NN:=⟨_,rfl⟩;have hobN:ob<NN:=(by rw[hob_];exact Nat.mod_lt _ hN0);have hpwN:IntKind.i64.wrap ((2:Int)^n)=(NN:Int):=by
    have e:((2:Int)^n)=(NN:Int):=(by rw[hNh.out];simp);rw[e,IntWalk.i64_in _ (by omega)]
   have hrem:(bt:Int).tmod (NN:Int)=(ob:Int):=(by rw[hob_];exact Int.ofNat_tmod bt NN);have hNNi:(0:Int)<(NN:Int):=(by omega);have hNNz:((NN:Int)==0)=false:=(by simp;omega);have hn64:(n:Int)<64:=(by omega);have hn0:(0:Int)≤(n:Int):=(by omega);obtain⟨p0,p1⟩:=HQ.out.cells;have hob':=Lib.hid hob_;clear hob_;(go_wp2_with fail);clear p0 p1;have HBq:=Lib.hid (Below.refl wq.heap.size wq);obtain⟨i0,hi,hz0,hz1,hz2⟩:=info_parts info_int;have hn60:=Lib.hid (show ob<2^60 by omega);have hsgn:=Lib.hid (show sgP K 1≠0 by rcases hsgh.out with h|h<;>rw[h]<;>decide);obtain⟨sg,hsg_⟩:∃x,x=sgP K 1:=⟨_,rfl⟩;have hsg:=Lib.hid hsg_;rw[←hsg_] at he1 he2 he3 hsgh hsgn;clear hsg_ hNNi hNNz hrem hpwN hti;go_loopw [17,105] (fun v u wr=>∃wl,wl=wr∧∃i mo:Nat,i≤n∧mo≤i∧u = .int .i64 i∧Hid (wl.ownsRow wq.heap.size 3 1 v mo (ints (idsY (idQ ps) (yBit sg ob) i)))∧Hid (Below wq.heap.size wq wl)) (fun _ u _=>n - (intOf u).toNat)
   case atStart=>exact⟨_,rfl,0,0,by omega,by omega,rfl,Lib.hid (World.ownsRow_nil _ _ _ _),HBq⟩
   case round=>
    obtain⟨wj,rfl,i,mo,hi_,hmi,rfl,HOw,HBj⟩:=hrel;have HJ:=Lib.hid (HQ.out.under HBj.out);obtain⟨Ao,co,rfl⟩:=ownR_val HOw.out;by_cases hin:i<n
    ·have hii:(i:Int)<(n:Int):=(by omega);have ii0:(0:Int)≤(i:Int):=(by omega);obtain⟨bi,hbi_⟩:∃x:Int,x=(bitN ob i:Int):=⟨_,rfl⟩;have hbit:bits .and .i64 ((ob:Int)/2^i) 1=bi:=(by rw[hbi_];exact band_bit hn60.out);have hbih:=Lib.hid hbi_;clear hbi_;obtain⟨bp,op,I,D,P,T,hAe,hbp,hx,y0,y1,y2,y3⟩:=HJ.out.rp.pg hin;have hI:Hid (idQ ps i=I):=(by show _=_;unfold idQ;rw[hx]);have hbk:Below wj.heap.size wj (wj.alloc (.cells #[.int .i64 I,.int .i64 D,.int .i64 P,.int .i64 T] 51)):=(Below.refl _ _).alloc (Nat.le_refl _) _;have hXk_:=heap_alloc_new wj (.cells #[.int .i64 I,.int .i64 D,.int .i64 P,.int .i64 T] 51);subst hAe;obtain⟨p0,p1⟩:=HJ.out.cells
     go_upto_if 114 with (fail)
     obtain⟨wk,hwk⟩:∃wk,wk=wj.alloc (.cells #[.int .i64 I,.int .i64 D,.int .i64 P,.int .i64 T] 51):=⟨_,rfl⟩;rw[←hwk] at hbk hXk_ ⊢;clear hwk y0 y1 y2 y3 p0 p1;have HOk:=Lib.hid (ownR_below HOw.out hbk);have HBk:=Lib.hid (below_via HBj.out HBj.out.size hbk);obtain⟨xb,hxb⟩:∃xb,xb=wj.heap.size:=⟨_,rfl⟩;rw[←hxb] at hXk_ ⊢;obtain⟨x0,-,-,-⟩:=facts4 hXk_;have hxb':=Lib.hid hxb;clear hxb hbk hXk_;rcases bitN_01 ob i with h01|h01
     ·have hy:=Lib.hid (idsY_no (ids:=idQ ps) (y:=yBit sg ob) (k:=i) (by unfold yBit;rw[h01];simp));have hb1:(bi==1)=false:=(by rw[hbih.out,h01];rfl);clear hbih h01 hx;go_wp2;go_roundw
      case rel=>exact⟨_,rfl,i+1,mo,by omega,by omega,by go_num,by rw[hy.out];exact HOk,HBk⟩
      case measure=>simp[intOf];omega
     ·have hy:=Lib.hid (idsY_yes (ids:=idQ ps) (y:=yBit sg ob) (k:=i) (by unfold yBit;rw[h01];simpa using hsgn.out));have hb1:(bi==1)=true:=(by rw[hbih.out,h01];rfl);have hLn:=heap_alloc_new wk (.cells #[.int .i64 I] 3);have hbA:=(Below.refl wk.heap.size wk).alloc (Nat.le_refl _) (.cells #[.int .i64 I] 3);have HOw3:=Lib.hid (ownR_below HOk.out hbA);have HLn:=Lib.hid (rd_one (t:=3) hLn);have HB3:=Lib.hid (below_via HBk.out HBk.out.size hbA);have hlw:=HBk.out.size;clear hbih h01 hx hLn hbA HOw HOk
      go_wp2_with (first
       |(at_builtin;refine wpList_app _ rfl _ _ 46 rfl wq.heap.size 3 i0 _ 1 8 Tryd.underlying46 hi hz0 hz1 hz2 rfl (by decide) (.slice Ao mo co) mo (ints (idsY (idQ ps) (yBit sg ob) i)) rfl HOw3.out _ (some ⟨wk.heap.size,0,none⟩) 1 1 (ints [I]) rfl HLn.out (ints_one _) ?c3 ?c4 ?c5 ?_))
      case c3=>unfold maxLen;omega
      case c4=>omega
      case c5=>first|omega|(simp<;>omega)
      intro v' z4 hown hgr hatv;have HB4:=Lib.hid (HB3.out.grown hgr HB3.out.size (fun k hk=>(ownR_lt HOw3.out hk).1));have hxs:Hid (z4.ownsRow wq.heap.size 3 1 v' (mo+1) (ints (idsY (idQ ps) (yBit sg ob) (i+1)))):=by
       show World.ownsRow _ _ _ _ _ _ _;rw[hy.out,hI.out,show ∀l,ints (l ++ [I])=ints l++ints [I] from fun l=>by simp[ints]];exact hown
      clear hown hgr hatv HOw3 HB3 HLn hbit hb1 x0;obtain⟨A4,c4,rfl⟩:=ownR_val hxs.out;go_wp2;go_roundw
      case rel=>exact⟨_,rfl,i+1,mo+1,by omega,by omega,by go_num,hxs,HB4⟩
      case measure=>simp[intOf];omega
    ·obtain rfl:n=i:=(by omega);have hii:¬(n:Int)<(n:Int):=(by omega);(go_wp2_with fail);have HT:=HJ.out;have HOr:=HOw.out;clear HJ HOw HBj HBq HQ;obtain⟨p0,p1⟩:=HT.cells;have hwb:w.heap.size<wj.heap.size:=(Array.getElem?_eq_some_iff.1 HT.b0).1;have HQw:=Lib.hid (fun w' (hz:Hid (Kp wj.heap.size [] wj w'))=>(⟨(hz.out.cell (by simp only;omega) (by simp;try omega)).trans p0,(hz.out.cell (by simp only;omega) (by simp;try omega)).trans p1⟩:w'.cell? ⟨w.heap.size,0,none⟩=some (.slice A n c)∧w'.cell? ⟨w.heap.size,1,none⟩=some (.slice A' n' c')));obtain⟨S,hSd⟩:∃S:World→Prop,S=fun w'=>(w'.cell? ⟨w.heap.size,0,none⟩=some (.slice A n c)∧w'.cell? ⟨w.heap.size,1,none⟩=some (.slice A' n' c'))∧Hid (Kp wj.heap.size [] wj w'):=⟨_,rfl⟩
     have HS:=Lib.hid (fun w' (hz:Hid (Kp wj.heap.size [] wj w'))=>(by rw[hSd];exact⟨HQw.out w' hz,hz⟩:S w'));clear p0 p1 HQw;have HPr:=Lib.hid (fun s (hs:s<2^n) z (X:LP w sb A A' n c n' c' ps ws Al t l sA z)=>prices_any A A' n c n' c' ps ws K s sg 1 z hnm X.rp X.rw_ hvh.out hK5 hs hsgh.out (.inl rfl));have hprF:=Lib.hid (fun s=>(show priS (toT ps) (rowsT ps ws) K 1 (yBit sg s) n=prF ps ws K sg 1 s by rw[←hlh.out];rfl));have hpc:=Lib.hid (fun z=>(by have h:=price_any K (by omega) z;rw[←hsg.out] at h;exact h:Calls Tryd.prog 22 #[.int .i64 K] z fun e w'=>e = .returned (.int .i64 sg)∧w'=z));have hobh:=Lib.hid (show ob<2^n by rw[←hNh.out];exact hobN);obtain⟨q,hq_⟩:∃q,q=prF ps ws K sg 1 ob:=⟨_,rfl⟩;have hqh:=Lib.hid hq_;clear hq_;refine wp_region_held_drew (S:=S) (by kernel_rfl) ?_ (fun hHeld=>?_)
     ·exact HS.out _ (Lib.hid (Kp.refl _ _ _).drew)
     have hKyd:Hid (Kp wj.heap.size [] wj wj.drew):=Lib.hid (Kp.refl _ _ _).drew;have hSyd:wj.heap.size≤wj.drew.heap.size:=Nat.le_refl _;have HT:=HT.under (Below.refl wj.heap.size wj).drew;have HOr:=ownR_below HOr (Below.refl wj.heap.size wj).drew;generalize wj.drew=yd at *;refine tY (v:=?_) 0 121 ?_ ?_;rotate_left
     ·intro w hSw;rw[hSd] at hSw;obtain⟨⟨q0,q1⟩,-⟩:=hSw;go_simp;(try with_reducible rfl)
     (try simp only[N0]);refine tY (v:=?_) 1 122 ?_ ?_;rotate_left
     ·intro w hSw;rw[hSd] at hSw;obtain⟨⟨q0,q1⟩,-⟩:=hSw;go_simp;(try with_reducible rfl)
     (try simp only[N0]);refine tY (v:=?_) 2 123 ?_ ?_;rotate_left
     ·intro w hSw;rw[hSd] at hSw;obtain⟨⟨q0,q1⟩,-⟩:=hSw;go_simp;(try with_reducible rfl)
     (try simp only[N0]);refine tY (v:=?_) 3 124 ?_ ?_;rotate_left
     ·intro w hSw;rw[hSd] at hSw;obtain⟨⟨q0,q1⟩,-⟩:=hSw;go_simp;(try with_reducible rfl)
     (try simp only[N0]);refine tY (v:=?_) 6 127 ?_ ?_;rotate_left
     ·intro w hSw;rw[hSd] at hSw;obtain⟨⟨q0,q1⟩,-⟩:=hSw;go_simp;(try with_reducible rfl)
     (try simp only[N0]);refine tY (v:=?_) 7 128 ?_ ?_;rotate_left
     ·intro w hSw;rw[hSd] at hSw;obtain⟨⟨q0,q1⟩,-⟩:=hSw;go_simp;(try with_reducible rfl)
     (try simp only[N0]);refine tY (v:=?_) 8 129 ?_ ?_;rotate_left
     ·intro w hSw;rw[hSd] at hSw;obtain⟨⟨q0,q1⟩,-⟩:=hSw;go_simp;(try with_reducible rfl)
     (try simp only[N0]);refine tY (v:=?_) 9 130 ?_ ?_;rotate_left
     ·intro w hSw;rw[hSd] at hSw;obtain⟨⟨q0,q1⟩,-⟩:=hSw;go_simp;(try with_reducible rfl)
     (try simp only[N0]);refine wpAnyH_ready (rs:=[4]) (by kernel_rfl) (by simp) ?_;refine AllReadyH.cons (o:=_) rfl (fun Kq hK=>?_) AllReadyH.nil;go_simp;refine(hpc.out yd).mono ?_;rintro e zz ⟨rfl,hzz⟩;obtain rfl:=hzz.symm;(try go_simp);refine hK.out _ _ ?_ (fun hHeld=>?_)
     ·exact HS.out _ hKyd
     clear hK Kq;(try simp only[N0]);refine wpAnyH_ready (rs:=[5]) (by kernel_rfl) (by simp) ?_;refine AllReadyH.cons (o:=_) rfl (fun Kq hK=>?_) AllReadyH.nil;go_simp;refine(HPr.out j hjh.out yd HT).mono ?_;rintro e c5yd ⟨rfl,hb⟩;have hKc5yd:=Lib.hid (hKyd.out.call hSyd hb);have hSc5yd:=Nat.le_trans hSyd hb.size;have HT:=HT.under hb;have HOr:=ownR_below HOr hb;rw[hprF.out j,he2.out];clear hb;(try go_simp);refine hK.out _ _ ?_ (fun hHeld=>?_)
     ·exact HS.out _ hKc5yd
     clear hK Kq;(try simp only[N0]);refine wpAnyH_ready (rs:=[10]) (by kernel_rfl) (by simp) ?_;refine AllReadyH.cons (o:=_) rfl (fun Kq hK=>?_) AllReadyH.nil;go_simp;refine(hpc.out c5yd).mono ?_;rintro e zz ⟨rfl,hzz⟩;obtain rfl:=hzz.symm;(try go_simp);refine hK.out _ _ ?_ (fun hHeld=>?_)
     ·exact HS.out _ hKc5yd
     clear hK Kq;(try simp only[N0]);refine wpAnyH_ready (rs:=[11]) (by kernel_rfl) (by simp) ?_;refine AllReadyH.cons (o:=_) rfl (fun Kq hK=>?_) AllReadyH.nil;go_simp;refine(HPr.out ob hobh.out c5yd HT).mono ?_;rintro e c11c5yd ⟨rfl,hb⟩;have hKc11c5yd:=Lib.hid (hKc5yd.out.call hSc5yd hb);have hSc11c5yd:=Nat.le_trans hSc5yd hb.size;have HT:=HT.under hb;have HOr:=ownR_below HOr hb;rw[hprF.out ob];rw[←hqh.out];clear hb;(try go_simp);refine hK.out _ _ ?_ (fun hHeld=>?_)
     ·exact HS.out _ hKc11c5yd
     clear hK Kq;(try simp only[N0]);refine tY (v:=?_) 12 21 ?_ ?_;rotate_left
     ·intro w hSw;rw[hSd] at hSw;obtain⟨⟨q0,q1⟩,-⟩:=hSw;go_simp;(try with_reducible rfl)
     (try simp only[N0]);refine tY (v:=?_) 13 22 ?_ ?_;rotate_left
     ·intro w hSw;rw[hSd] at hSw;obtain⟨⟨q0,q1⟩,-⟩:=hSw;go_simp;(try with_reducible rfl)
     (try simp only[N0]);refine wpAnyH_done (by kernel_rfl) ?_ _;clear HS hSd;generalize c11c5yd=wy at *;obtain⟨m0,m1,-,-⟩:=two_facts HT.bs;have hqs:=he3.out ob (by rw[hlh.out];exact hobh.out);rw[←hqh.out] at hqs;clear he3 he2 hqh hobN;rcases hqs with hqs|⟨hqs,hshb⟩
     ·have hge:decide (sA.2≤q)=true:=(by simp;omega);go_wp2;go_ret;exact⟨rfl,HT.bel⟩
     ·subst hqs;have hlt:decide (sA.2<sA.2)=false:=(by simp);have hsh:=Lib.hid (shorter_any Ao Al mo t co cl _ _ wy (by unfold maxLen;omega) (by unfold maxLen;omega) (Reads.of_own HOr) HT.rl);rw[show idsY (idQ ps) (yBit sg ob) n=idF ps sg ob by unfold idF;rw[hlh.out],hshb] at hsh;(go_wp2_with fail);clear m0 m1;refine hsh.out.mono ?_;rintro e w9 ⟨rfl,hb⟩;have HB9:=Lib.hid (HT.under hb).bel;clear hb hsh HT HOr;go_wp2;go_ret;exact⟨rfl,HB9.out⟩
end Go.Proofs.YtfplipbkjglmhaaDoor
