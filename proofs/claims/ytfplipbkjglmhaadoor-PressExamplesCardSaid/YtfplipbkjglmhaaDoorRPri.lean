/-
 The walk of the reference's prices, and of its order of lists.
-/
import Derived.Test.YtfplipbkjglmhaaDoorTk
import Derived.Test.YtfplipbkjglmhaaDoorSumB
import Derived.Test.YtfplipbkjglmhaaDoorRAsk
namespace Go.Proofs.YtfplipbkjglmhaaDoor
open Go.RowKit
set_option linter.unusedVariables false
set_option linter.unusedSimpArgs false
theorem band1(x:Nat)(h:x<2^60):bits .and .i64 (x:Int) 1=((x%2:Nat):Int):=by
 have e1:x%2^IntKind.i64.bits=x:=Nat.mod_eq_of_lt (by simp[IntKind.bits];omega);have e2:1%2^IntKind.i64.bits=1:=by decide
 simp only[bits];have:IntKind.i64.wrap ((x%2:Nat):Int)=((x%2:Nat):Int):=IntWalk.i64_in _ (by omega);rw[←this];have h2:=e1;simp[e1,e2,Nat.and_one_is_mod]
theorem band_bit{s i:Nat}(h:s<2^60):bits .and .i64 ((s:Int)/2^i) 1=(bitN s i:Int):=by
 have e:((s:Int)/2^i)=((s/2^i:Nat):Int):=by simp
 rw[e,band1 _ (Nat.lt_of_le_of_lt (Nat.div_le_self _ _) h)];rfl
theorem mul_bd{a e B:Int}(ha:-B≤a∧a≤B)(he:-4≤e∧e≤4):-(4*B)≤a*e∧a*e≤4*B:=by
 obtain rfl|rfl|rfl|rfl|rfl|rfl|rfl|rfl|rfl:e = -4∨e = -3∨e = -2∨e = -1∨e=0∨e=1∨e=2∨e=3∨e=4:=by omega
 all_goals omega
theorem cnt_bd{s:Sp}(hs:-10000000≤s.1∧s.1≤10000000∧-10000000≤s.2∧s.2≤10000000){e:Int}(he:-4≤e∧e≤4):-40000000≤cnt s e∧cnt s e≤40000000:=by
 have h1:=mul_bd (a:=s.1) (B:=10000000) ⟨hs.1,hs.2.1⟩ he;have h2:=mul_bd (a:=s.2) (B:=10000000) ⟨hs.2.2.1,hs.2.2.2⟩ he;unfold cnt;omega
set_option maxRecDepth 100000 in
theorem counts_any(s:Sp)(e:Int)(hs:-10000000≤s.1∧s.1≤10000000∧-10000000≤s.2∧s.2≤10000000)(he:-4≤e∧e≤4)(w:World) :
  Calls Tryd.prog 69 #[.agg #[.int .i64 s.1,.int .i64 s.2],.int .i64 e] w fun e' w'=>e' = .returned (.int .i64 (cnt s e))∧Below w.heap.size w w':=by
 obtain⟨a,b⟩:=s;simp only at hs;have h1:=mul_bd (a:=a) (B:=10000000) ⟨hs.1,hs.2.1⟩ he;have h2:=mul_bd (a:=b) (B:=10000000) ⟨hs.2.2.1,hs.2.2.2⟩ he;have hB:=Lib.hid ((Below.refl w.heap.size w).alloc (Nat.le_refl _) (.cells #[.int .i64 a,.int .i64 b] 36));have hm:(if a*e<b*e then b*e else a*e)=cnt (a,b) e:=by unfold cnt;split<;>simp only<;>omega
 have w1:IntKind.i64.wrap (a*e)=a*e:=IntWalk.i64_in _ (by omega);have w2:IntKind.i64.wrap (b*e)=b*e:=IntWalk.i64_in _ (by omega)
 go_enter Tryd.func69,Tryd.ntmps69
 go_wp2;go_ret;exact⟨rfl,hB.out⟩
theorem price_any(K:Nat)(hK:K<100)(w:World):Calls Tryd.prog 22 #[.int .i64 K] w fun e w'=>e = .returned (.int .i64 (sgP K 1))∧w'=w:=by
 by_cases h:K=1
 ·subst h;rw[show ((1:Nat):Int)=1 from rfl]
  go_enter Tryd.func22,Tryd.ntmps22
  go_wp2;go_ret;exact⟨rfl,rfl⟩
 ·have h1:sgP K 1=1:=(by unfold sgP;simp[h]);have hk:¬(K:Int)=1:=(by omega);have hb:((K:Int)==1)=false:=(by simpa using hk);rw[h1]
  go_enter Tryd.func22,Tryd.ntmps22
  go_wp2;go_ret;exact⟨rfl,rfl⟩
theorem lex_eq{a b:List Int}:∀(k:Nat) (a b:List Int),a.take k=b.take k→k<a.length→k<b.length→lexB a b=lexB (a.drop k) (b.drop k)
 |0,_,_,_,_,_=>rfl
 |k+1,x::a,y::b,h,h1,h2=>by
  simp only[List.take_succ_cons,List.cons.injEq] at h;obtain⟨rfl,h⟩:=h;show (if x=x then _ else _)=_;rw[if_pos rfl,List.drop_succ_cons,List.drop_succ_cons];exact lex_eq (a:=a) (b:=b) k a b h (by simpa using h1) (by simpa using h2)
 |_+1,[],_,_,h,_=>by simp at h
 |_+1,_::_,[],_,_,h=>by simp at h
theorem sh_at{a b:List Int}{k:Nat}(hl:a.length=b.length)(h:a.take k=b.take k)(hk:k<a.length){x y:Int}(hx:a[k]? = some x)(hy:b[k]? = some y)(hn:x≠y):shB a b=decide (x<y):=by
 unfold shB;rw[if_pos hl,lex_eq (a:=a) (b:=b) k a b h hk (by omega),List.drop_eq_getElem_cons hk,List.drop_eq_getElem_cons (l:=b) (i:=k) (by omega)];have e1:a[k]=x:=by rw[List.getElem?_eq_getElem hk] at hx;exact Option.some.inj hx
 have e2:b[k]'(by omega)=y:=by rw[List.getElem?_eq_getElem (by omega)] at hy;exact Option.some.inj hy
 rw[e1,e2];unfold lexB;rw[if_neg hn]
theorem shorter_any(A A':Option Addr)(n m c c':Nat)(l l':List Int)(w:World)(hn:n≤maxLen)(hm:m≤maxLen)
  (h:Reads w w.heap.size 1 A n (ints l)) (h':Reads w w.heap.size 1 A' m (ints l')) :
  Calls Tryd.prog 23 #[.slice A n c,.slice A' m c'] w fun e w'=>e = .returned (.bool (shB l l'))∧Below w.heap.size w w':=by
 have hl:l.length=n:=by simpa using h.len
 have hl':l'.length=m:=by simpa using h'.len
 unfold maxLen at hn hm;by_cases hnm:n=m
 ·have hb:((n:Int) != (m:Int))=false:=(by simp[hnm]);subst hnm
  go_enter Tryd.func23,Tryd.ntmps23
  go_wp2;go_loopw [5] (fun i wr=>∃k:Nat,k≤n∧i = .int .i64 k∧Hid (l.take k=l'.take k)∧∃q,wr=w.drewN q) (fun i _=>n - (intOf i).toNat)
  case atStart=>exact⟨0,by omega,rfl,rfl,0,rfl⟩
  case round=>
   obtain⟨k,hk,rfl,ht,q,rfl⟩:=hrel;by_cases hlt:k<n
   ·obtain⟨b,o,rfl,hbb,hc⟩:=h.int hlt;obtain⟨b',o',rfl,hbb',hc'⟩:=h'.int hlt;have hlk:l[k]? = some (l[k]'(by omega)):=List.getElem?_eq_getElem (by omega);have hlk':l'[k]? = some (l'[k]'(by omega)):=List.getElem?_eq_getElem (by omega);have hat:=Lib.hid (fun(hn:l[k]?.getD 0≠l'[k]?.getD 0)=>sh_at (a:=l) (b:=l') (k:=k) (hl.trans hl'.symm) ht.out (by omega) (x:=l[k]?.getD 0) (y:=l'[k]?.getD 0) (by rw[hlk];rfl) (by rw[hlk'];rfl) hn);by_cases he:l[k]?.getD 0=l'[k]?.getD 0
    ·have he':(l[k]?.getD 0 != l'[k]?.getD 0)=false:=(by simpa using he);have hnx:Hid (l.take (k+1)=l'.take (k+1)):=by
      show l.take (k+1)=l'.take (k+1);rw[hlk,hlk'] at he;have he2:l[k]'(by omega)=l'[k]'(by omega):=(by simpa using he);rw[List.take_add_one,List.take_add_one,ht.out,hlk,hlk',he2]
     clear ht he hlk hlk' hl hl' hat;go_wp2;(go_quiet (fail));go_wp2;go_roundw
     case rel=>exact⟨k+1,by omega,by go_num,hnx,(by first|exact⟨_,rfl⟩|exact⟨_,World.drewN_drewN _ _ _⟩)⟩
     case measure=>simp[intOf];omega
    ·have he':(l[k]?.getD 0 != l'[k]?.getD 0)=true:=(by simpa using he);have hne:=Lib.hid (hat.out he);clear ht he hlk hlk' hl hl' hat;generalize l[k]?.getD 0=x at *;generalize l'[k]?.getD 0=y at *;go_wp2;(go_quiet (fail));go_wp2;(go_quiet (fail));go_wp2;go_ret;exact⟨by rw[hne.out];rfl,by(repeat rw[World.drewN_drewN]);exact below_drewN (Below.refl _ _) _⟩
   ·have heq:Hid (shB l l'=false):=by
     show shB l l'=false;have:=ht.out;rw[List.take_of_length_le (by omega),List.take_of_length_le (by omega)] at this;rw[this];exact sh_irr _
    clear ht hl hl';go_wp2;go_ret;exact⟨by rw[heq.out];rfl,below_drewN (Below.refl _ _) _⟩
 ·have hb:((n:Int) != (m:Int))=true:=(by simp;omega);have hne:Hid (shB l l'=decide (n<m)):=by
   show _=_;unfold shB;rw[if_neg (by omega),hl,hl']
  clear hnm hl hl'
  go_enter Tryd.func23,Tryd.ntmps23
  go_wp2;go_ret;exact⟨by rw[hne.out];rfl,Below.refl _ _⟩
theorem rowS_bd{t:Nat→Option Nat}{R:Nat→Nat→Sp}{K:Nat}{one:Int}{y:Nat→Int}{i:Nat}(hR:∀k,k<7→-10000000≤(R i k).1∧(R i k).1≤10000000∧-10000000≤(R i k).2∧(R i k).2≤10000000)(ho:one=1∨one = -1)(h1:-1≤y i∧y i≤1)(h2:-1≤yTo t y i∧yTo t y i≤1) :
  ∀(k:Nat),k≤6→-(40000000*(k:Int))≤rowS t R K one y i k∧rowS t R K one y i k≤40000000*(k:Int)
 |0,_=>by simp[rowS]
 |k+1,hk=>by
  have ih:=rowS_bd (K:=K) hR ho h1 h2 k (by omega);have:=cnt_bd (hR (k+1) (by omega)) (e:=eachP K one (y i) (yTo t y i) (k+1)) (by unfold eachP;split<;>(try split)<;>(try split)<;>omega);unfold rowS;omega
theorem priS_bd{t:Nat→Option Nat}{R:Nat→Nat→Sp}{K:Nat}{one:Int}{y:Nat→Int}{n:Nat}(hR:SmR R n)(ho:one=1∨one = -1)(h1:∀i,i<n→-1≤y i∧y i≤1)(h2:∀i,i<n→-1≤yTo t y i∧yTo t y i≤1) :
  ∀(m:Nat),m≤n→-(240000000*(m:Int))≤priS t R K one y m∧priS t R K one y m≤240000000*(m:Int)
 |0,_=>by simp[priS]
 |m+1,hm=>by
  have ih:=priS_bd (K:=K) hR ho h1 h2 m (by omega);have:=rowS_bd (K:=K) (fun k hk=>hR m k (by omega) hk) ho (h1 m (by omega)) (h2 m (by omega)) 6 (by omega);unfold priS;omega
set_option maxRecDepth 100000 in
set_option maxHeartbeats 4000000 in
theorem prices_any(A A':Option Addr)(n c n' c':Nat)(ps:List PR)(ws:List WE)(K s:Nat)(price one:Int)(w:World)(hnm:n≤maxLen)(hR:Reads w w.heap.size 4 A n (pgs ps))(hW:Reads w w.heap.size 5 A' n' (wgs ws))(hv:validP ps ws=true)(hK:K≤5)(hs:s<2^n)(hp:price=1∨price = -1)(ho:one=1∨one = -1) :
  Calls Tryd.prog 21 #[.agg #[.slice A n c,.slice A' n' c'],.int .i64 K,.int .i64 s,.int .i64 price,.int .i64 one] w fun e w'=>e = .returned (.int .i64 (priS (toT ps) (rowsT ps ws) K one (yBit price s) n))∧Below w.heap.size w w':=by
 have hVF:=valid_facts hv;have hl:ps.length=n:=hR.pg_len;have hn:n≤10:=by have:=hVF.n10;omega
 have hs10:s<2^60:=Nat.lt_of_lt_of_le hs (Nat.pow_le_pow_right (by decide) (by omega));have hsi:(0:Int)≤(s:Int)∧(s:Int)<1152921504606846976:=by omega
 have hSm:=hVF.smr ws.length;rw[List.take_length,hl] at hSm;have hFw:=hVF.fwd;rw[hl] at hFw;have hY:=yBit_val (n:=n) price s;have hyb:∀j,-1≤yBit price s j∧yBit price s j≤1:=fun j=>by
  unfold yBit;rcases bitN_01 s j with e|e<;>rw[e]<;>rcases hp with rfl|rfl<;>simp
 have hyt:∀j,-1≤yTo (toT ps) (yBit price s) j∧yTo (toT ps) (yBit price s) j≤1:=fun j=>by
  unfold yTo;cases toT ps j with
  |none=>simp
  |some q=>exact hyb q
 have priB:=Lib.hid (priS_bd (K:=K) hSm ho (fun i _=>hyb i) (fun i _=>hyt i));have rowB:=Lib.hid (fun i (hi:i<n)=>rowS_bd (K:=K) (fun k hk=>hSm i k hi hk) ho (hyb i) (hyt i));have HRd:=Lib.hid (fun z (hz:Below w.heap.size w z)=>(hR.below hz).more hz.size);have HWd:=Lib.hid (fun z (hz:Below w.heap.size w z)=>(hW.below hz).more hz.size);have hO0:=heap_alloc_new w (.cells #[.slice A n c,.slice A' n' c'] 25);have hb0:Below w.heap.size w (w.alloc (.cells #[.slice A n c,.slice A' n' c'] 25)):=(Below.refl _ _).alloc (Nat.le_refl _) _;have HOp:=Lib.hid (fun z (hz:Below (w.alloc (.cells #[.slice A n c,.slice A' n' c'] 25)).heap.size (w.alloc (.cells #[.slice A n c,.slice A' n' c'] 25)) z)=>keepO hz hO0);have HB0:=Lib.hid hb0;have hSmh:=Lib.hid hSm;have hFh:=Lib.hid hFw;have hVh:=Lib.hid hVF;have hvh:=Lib.hid hv;have hpb:-1≤price∧price≤1:=by omega
 have hob:-1≤one∧one≤1:=by omega
 have hoh:=Lib.hid ho;have hph:=Lib.hid hp;have hybh:=Lib.hid hyb;have hyth:=Lib.hid hyt;have hlh:=Lib.hid hl;clear hR hW hO0 hb0 hSm hFw hVF hv ho hp hY hyb hyt hl
 go_enter Tryd.func21,Tryd.ntmps21
 go_wp2_with fail
 generalize hwb:(w.alloc (.cells #[.slice A n c,.slice A' n' c'] 25))=wb at *;clear hwb;go_loopw [11,12] (fun v u wr=>∃wl,wl=wr∧∃i:Nat,i≤n∧v = .int .i64 (priS (toT ps) (rowsT ps ws) K one (yBit price s) i)∧u = .int .i64 i∧Hid (Below wb.heap.size wb wl)) (fun _ u _=>n - (intOf u).toNat)
 case atStart=>exact⟨_,rfl,0,Nat.zero_le _,rfl,rfl,Lib.hid (Below.refl _ _)⟩
 case round=>
  obtain⟨wq,rfl,i,hi,rfl,rfl,HBb⟩:=hrel;have HBr:=Lib.hid (below_via HB0.out HB0.out.size HBb.out);obtain⟨p0,p1,-,-⟩:=two_facts (HOp.out _ HBb.out);obtain⟨q1b,q2b⟩:=priB.out i hi;have hpr:=Lib.hid (show priS (toT ps) (rowsT ps ws) K one (yBit price s) (i+1)=priS (toT ps) (rowsT ps ws) K one (yBit price s) i+rowS (toT ps) (rowsT ps ws) K one (yBit price s) i 6 from rfl);obtain⟨pv,hpv⟩:∃x,x=priS (toT ps) (rowsT ps ws) K one (yBit price s) i:=⟨_,rfl⟩;rw[←hpv] at q1b q2b hpr;rw[←hpv];by_cases hin:i<n
  ·have hii:(i:Int)<(n:Int):=(by omega);have ii0:(0:Int)≤(i:Int):=(by omega);obtain⟨bp,op,I,D,P,T,rfl,hbp,hx,y0,y1,y2,y3⟩:=(HRd.out _ HBr.out).pg hin;obtain⟨yi,hyi_⟩:∃x,x=yBit price s i:=⟨_,rfl⟩;obtain⟨ti,hti_⟩:∃x,x=yTo (toT ps) (yBit price s) i:=⟨_,rfl⟩;obtain⟨bi,hbi_⟩:∃x:Int,x=(bitN s i:Int):=⟨_,rfl⟩;have hyb1:=hybh.out i;have hyt1:=hyth.out i;rw[←hyi_] at hyb1;rw[←hti_] at hyt1;have hbb1:0≤bi∧bi≤1:=(by have:=bitN_01 s i;omega);have hbit:bits .and .i64 ((s:Int)/2^i) 1=bi:=(by rw[hbi_];exact band_bit hs10);have hmul:IntKind.i64.wrap (bi*price)=yi:=by
    rw[hyi_,hbi_,IntWalk.i64_in _ (by have:=hybh.out i;unfold yBit at this;omega)];rfl
   have hrow:=rowB.out i hin;have hyi:=Lib.hid hyi_.symm;have hti:=Lib.hid hti_.symm;clear hyi_ hbi_ hti_ hpv
   go_upto_if 36 with (fail)
   go_cut [14] from 36 to 49 (fun v wx=>∃wl,wl=wx∧v = .int .i64 ti∧Hid (Below wb.heap.size wb wl))
   case first=>
    by_cases hT:T=0
    ·subst hT;have ht0:ti=0:=by
      rw[←hti.out];unfold yTo toT;rw[hx];simp
     subst ht0;go_wp2;go_meet;exact⟨_,rfl,rfl,HBb⟩
    ·have hTb:(T != 0)=true:=(by simpa using hT);have htT:toT ps i=some (idxP ps T).toNat:=(by unfold toT;rw[hx];simp[hT]);obtain⟨q,hq_⟩:∃q,q=(idxP ps T).toNat:=⟨_,rfl⟩;rw[←hq_] at htT;have hqn:=(hFh.out i q hin htT).2;have hqi:idxP ps T=(q:Int):=by
      have:=(hVh.out.to_ i _ hx);simp only at this;rcases this with h|h
      ·exact absurd h hT
      ·omega
     obtain⟨bq,hbq_⟩:∃x:Int,x=(bitN s q:Int):=⟨_,rfl⟩;have hbbq:0≤bq∧bq≤1:=(by have:=bitN_01 s q;omega);have hbitq:bits .and .i64 ((s:Int)/2^q) 1=bq:=(by rw[hbq_];exact band_bit hs10);have htq:ti=yBit price s q:=(by rw[←hti.out];unfold yTo;rw[htT]);have hmulq:IntKind.i64.wrap (bq*price)=ti:=by
      rw[htq,hbq_,IntWalk.i64_in _ (by have:=hybh.out q;unfold yBit at this;omega)];rfl
     have hq0:(0:Int)≤(q:Int)∧(q:Int)≤10:=(by omega);have hPs:=Lib.hid (fun z (hz:Below wq.heap.size wq z)=>(by
      have h:=Pressing_any (some ⟨bp,op,none⟩) A' n c n' c' ps T z hnm (HRd.out z (below_via HBr.out HBr.out.size hz));rw[hqi] at h
      exact h:Calls Tryd.prog 20 #[.agg #[.slice (some ⟨bp,op,none⟩) n c,.slice A' n' c'],.int .i64 T] z fun e w'=>e = .returned (.int .i64 (q:Int))∧Below z.heap.size z w'))
     have hlw:w.heap.size<wq.heap.size:=(Array.getElem?_eq_some_iff.1 (HOp.out _ HBb.out)).1;have hbq2:bp<wq.heap.size:=hbp;clear hq_ htT hqi hbq_ htq hx y0 y1 y2;have HQ:=Lib.hid (fun w' (hz:Hid (Kp wq.heap.size [] wq w'))=>(⟨(hz.out.cell (by simp only;omega) (by simp;try omega)).trans p0,(hz.out.cell (by simp only;omega) (by simp;try omega)).trans p1,(hz.out.cell (by simp only;omega) (by simp;try omega)).trans y3⟩:w'.cell? ⟨w.heap.size,0,none⟩=some (.slice (some ⟨bp,op,none⟩) n c)∧w'.cell? ⟨w.heap.size,1,none⟩=some (.slice A' n' c')∧w'.cell? ⟨bp,op+i*4+3,none⟩=some (.int .i64 T)));obtain⟨S,hSd⟩:∃S:World→Prop,S=fun w'=>(w'.cell? ⟨w.heap.size,0,none⟩=some (.slice (some ⟨bp,op,none⟩) n c)∧w'.cell? ⟨w.heap.size,1,none⟩=some (.slice A' n' c')∧w'.cell? ⟨bp,op+i*4+3,none⟩=some (.int .i64 T))∧Hid (Kp wq.heap.size [] wq w'):=⟨_,rfl⟩
     have HS:=Lib.hid (fun w' (hz:Hid (Kp wq.heap.size [] wq w'))=>(by rw[hSd];exact⟨HQ.out w' hz,hz⟩:S w'));clear p0 p1 y3;(go_wp2_with fail);refine wp_region_held_drew (S:=S) (by kernel_rfl) ?_ (fun hHeld=>?_)
     ·exact HS.out _ (Lib.hid (Kp.refl _ _ _).drew)
     have hKyd:Hid (Kp wq.heap.size [] wq wq.drew):=Lib.hid (Kp.refl _ _ _).drew;have hSyd:wq.heap.size≤wq.drew.heap.size:=Nat.le_refl _;generalize wq.drew=yd at *;refine tY (v:=?_) 0 37 ?_ ?_;rotate_left
     ·intro w hSw;rw[hSd] at hSw;obtain⟨⟨q0,q1,q2⟩,-⟩:=hSw;go_simp;(try with_reducible rfl)
     (try simp only[N0]);refine tY (v:=?_) 1 38 ?_ ?_;rotate_left
     ·intro w hSw;rw[hSd] at hSw;obtain⟨⟨q0,q1,q2⟩,-⟩:=hSw;go_simp;(try with_reducible rfl)
     (try simp only[N0]);refine tY (v:=?_) 2 39 ?_ ?_;rotate_left
     ·intro w hSw;rw[hSd] at hSw;obtain⟨⟨q0,q1,q2⟩,-⟩:=hSw;go_simp;(try with_reducible rfl)
     (try simp only[N0]);refine tY (v:=?_) 3 40 ?_ ?_;rotate_left
     ·intro w hSw;rw[hSd] at hSw;obtain⟨⟨q0,q1,q2⟩,-⟩:=hSw;go_simp;(try with_reducible rfl)
     (try simp only[N0]);refine tY (v:=?_) 4 41 ?_ ?_;rotate_left
     ·intro w hSw;rw[hSd] at hSw;obtain⟨⟨q0,q1,q2⟩,-⟩:=hSw;go_simp;(try with_reducible rfl)
     (try simp only[N0]);refine tY (v:=?_) 5 42 ?_ ?_;rotate_left
     ·intro w hSw;rw[hSd] at hSw;obtain⟨⟨q0,q1,q2⟩,-⟩:=hSw;go_simp;(try with_reducible rfl)
     (try simp only[N0]);refine tY (v:=?_) 6 43 ?_ ?_;rotate_left
     ·intro w hSw;rw[hSd] at hSw;obtain⟨⟨q0,q1,q2⟩,-⟩:=hSw;go_simp;(try with_reducible rfl)
     (try simp only[N0]);refine tY (v:=?_) 7 44 ?_ ?_;rotate_left
     ·intro w hSw;rw[hSd] at hSw;obtain⟨⟨q0,q1,q2⟩,-⟩:=hSw;go_simp;(try with_reducible rfl)
     (try simp only[N0]);refine tY (v:=?_) 11 48 ?_ ?_;rotate_left
     ·intro w hSw;rw[hSd] at hSw;obtain⟨⟨q0,q1,q2⟩,-⟩:=hSw;go_simp;(try with_reducible rfl)
     (try simp only[N0]);refine wpAnyH_ready (rs:=[8]) (by kernel_rfl) (by simp) ?_;refine AllReadyH.cons (o:=_) rfl (fun Kq hK=>?_) AllReadyH.nil;go_simp;refine(hPs.out _ (hKyd.out.below (Nat.le_refl _) (by simp))).mono ?_;rintro e c8yd ⟨rfl,hb⟩;have hKc8yd:=Lib.hid (hKyd.out.call hSyd hb);have hSc8yd:=Nat.le_trans hSyd hb.size;clear hb;(try go_simp);refine hK.out _ _ ?_ (fun hHeld=>?_)
     ·exact HS.out _ hKc8yd
     clear hK Kq;(try simp only[N0]);refine wpAnyH_ready (rs:=[9]) (by kernel_rfl) (by simp) ?_;refine AllReadyH.cons (o:=_) rfl (fun Kq hK=>?_) AllReadyH.nil;go_simp;refine hK.out _ _ ?_ (fun hHeld=>?_)
     ·exact HS.out _ hKc8yd
     clear hK Kq;(try simp only[N0]);refine wpAnyH_ready (rs:=[10]) (by kernel_rfl) (by simp) ?_;refine AllReadyH.cons (o:=_) rfl (fun Kq hK=>?_) AllReadyH.nil;go_simp;refine hK.out _ _ ?_ (fun hHeld=>?_)
     ·exact HS.out _ hKc8yd
     clear hK Kq;(try simp only[N0]);refine wpAnyH_ready (rs:=[12]) (by kernel_rfl) (by simp) ?_;refine AllReadyH.cons (o:=_) rfl (fun Kq hK=>?_) AllReadyH.nil;go_simp;refine hK.out _ _ ?_ (fun hHeld=>?_)
     ·exact HS.out _ hKc8yd
     clear hK Kq;(try simp only[N0]);refine wpAnyH_ready (rs:=[13]) (by kernel_rfl) (by simp) ?_;refine AllReadyH.cons (o:=_) rfl (fun Kq hK=>?_) AllReadyH.nil;go_simp;refine hK.out _ _ ?_ (fun hHeld=>?_)
     ·exact HS.out _ hKc8yd
     clear hK Kq;(try simp only[N0]);refine wpAnyH_done (by kernel_rfl) ?_ _;have HBz:=Lib.hid (HBb.out.trans (hKc8yd.out.below (B':=wb.heap.size) HBb.out.size (by simp)));clear HS HQ hSd;(go_wp2_with fail);go_meet;exact⟨_,rfl,rfl,HBz⟩
   case rest=>
    clear HBb p0 p1 y0 y1 y2 y3 hbp;obtain⟨wc,rfl,rfl,HBc⟩:=‹∃wl,wl=_∧_›;have hstep:=Lib.hid (fun k=>(show rowS (toT ps) (rowsT ps ws) K one (yBit price s) i (k+1)=rowS (toT ps) (rowsT ps ws) K one (yBit price s) i k+cnt (rowsT ps ws i (k+1)) (eachP K one yi ti (k+1)) by show rowS (toT ps) (rowsT ps ws) K one (yBit price s) i k+cnt (rowsT ps ws i (k+1)) (eachP K one (yBit price s i) (yTo (toT ps) (yBit price s) i) (k+1))=_;rw[hyi.out,hti.out]));have hrowh:=Lib.hid hrow;clear hrow hbit hmul hx;(go_wp2_with fail);go_loopw [11,15] (fun v u wr=>∃wl,wl=wr∧∃j:Nat,1≤j∧j≤7∧∃sv:Int,v = .int .i64 sv∧u = .int .i64 j∧Hid (Below wb.heap.size wb wl)∧Hid (sv=pv+rowS (toT ps) (rowsT ps ws) K one (yBit price s) i (j - 1))) (fun _ u _=>7 - (intOf u).toNat)
    case atStart=>exact⟨_,rfl,1,by omega,by omega,pv,rfl,rfl,HBc,Lib.hid (by simp[rowS])⟩
    case round=>
     clear HBc;obtain⟨wj,rfl,j,hj1,hj7,sv,rfl,rfl,HBw,hsv⟩:=hrel;have HBj:=Lib.hid (below_via HB0.out HB0.out.size HBw.out);obtain⟨p0,p1,-,-⟩:=two_facts (HOp.out _ HBw.out);have hsb:-4000000000≤sv∧sv≤4000000000:=by
      have h1:=hsv.out;have h2:=hrowh.out (j - 1) (by omega);omega
     by_cases hj6:j≤6
     ·have hjj:(j:Int)≤6:=(by omega);have hj0:(1:Int)≤(j:Int):=(by omega);have hNo:=Lib.hid (Noted_any (some ⟨bp,op,none⟩) A' n c n' c' ps ws i j wj (HRd.out _ HBj.out) (HWd.out _ HBj.out) hvh.out hin (by omega));have hrs:Hid (∀cv,cnt (rowsT ps ws i j) (eachP K one yi ti j)=cv→Hid (sv+cv=pv+rowS (toT ps) (rowsT ps ws) K one (yBit price s) i (j+1 - 1))):=by
       refine Lib.hid fun cv hcv=>?_;obtain⟨k,rfl⟩:∃k,j=k+1:=⟨j - 1,by omega⟩;have h1:=hsv.out;simp only[Nat.add_sub_cancel] at h1 ⊢;refine Lib.hid ?_;rw[hstep.out k,hcv,h1,Int.add_assoc]
      clear hsv;by_cases hc1:j=1
      ·have hb1:((j:Int)==1)=true:=(by simp[hc1]);have hb6:((j:Int)==6)=false:=(by simp[hc1]);by_cases hcK:j=K
       ·have hbK:((j:Int)==(K:Int))=true:=(by simp[hcK]);have hE:Hid (eachP K one yi ti j=yi+one):=(by show _=_;unfold eachP;rw[if_pos hc1,if_pos hcK]);have hCo:=Lib.hid (fun z=>counts_any (rowsT ps ws i j) (yi+one) (hSmh.out i j hin (by omega)) (by omega) z);have hCn:=Lib.hid (cnt_bd (hSmh.out i j hin (by omega)) (e:=yi+one) (by omega));(try clear hc6);(try clear hcK);clear hc1;(go_wp2_with fail);refine hNo.out.mono ?_;rintro e z1 ⟨rfl,hb⟩;have HB1:=Lib.hid (below_via HBw.out HBw.out.size hb);clear hb hNo p0 p1;(go_wp2_with fail);refine(hCo.out z1).mono ?_;rintro e z2 ⟨rfl,hb⟩;have HB2:=Lib.hid (below_via HB1.out HB1.out.size hb);have hst:=Lib.hid (hrs.out (cnt (rowsT ps ws i j) (yi+one)) (by rw[hE.out]));obtain⟨h1b,h2b⟩:=hCn.out;generalize cnt (rowsT ps ws i j) (yi+one)=cv at *;clear hb hCo hCn hE hrs;go_wp2;go_roundw
        case rel=>exact⟨_,rfl,j+1,by omega,by omega,sv+cv,rfl,by go_num,HB2,hst⟩
        case measure=>simp[intOf];omega
       ·have hbK:((j:Int)==(K:Int))=false:=(by simp;omega);have hE:Hid (eachP K one yi ti j=yi):=(by show _=_;unfold eachP;rw[if_pos hc1,if_neg hcK,Int.add_zero]);have hCo:=Lib.hid (fun z=>counts_any (rowsT ps ws i j) (yi) (hSmh.out i j hin (by omega)) (by omega) z);have hCn:=Lib.hid (cnt_bd (hSmh.out i j hin (by omega)) (e:=yi) (by omega));(try clear hc6);(try clear hcK);clear hc1;(go_wp2_with fail);refine hNo.out.mono ?_;rintro e z1 ⟨rfl,hb⟩;have HB1:=Lib.hid (below_via HBw.out HBw.out.size hb);clear hb hNo p0 p1;(go_wp2_with fail);refine(hCo.out z1).mono ?_;rintro e z2 ⟨rfl,hb⟩;have HB2:=Lib.hid (below_via HB1.out HB1.out.size hb);have hst:=Lib.hid (hrs.out (cnt (rowsT ps ws i j) (yi)) (by rw[hE.out]));obtain⟨h1b,h2b⟩:=hCn.out;generalize cnt (rowsT ps ws i j) (yi)=cv at *;clear hb hCo hCn hE hrs;go_wp2;go_roundw
        case rel=>exact⟨_,rfl,j+1,by omega,by omega,sv+cv,rfl,by go_num,HB2,hst⟩
        case measure=>simp[intOf];omega
      ·have hb1:((j:Int)==1)=false:=(by simp;omega);by_cases hc6:j=6
       ·have hb6:((j:Int)==6)=true:=(by simp[hc6]);have hcK:¬j=K:=(by omega);have hbK:((j:Int)==(K:Int))=false:=(by simp;omega);have hE:Hid (eachP K one yi ti j=ti - yi):=(by show _=_;unfold eachP;rw[if_neg hc1,if_pos hc6,if_neg hcK,Int.add_zero]);have hCo:=Lib.hid (fun z=>counts_any (rowsT ps ws i j) (ti - yi) (hSmh.out i j hin (by omega)) (by omega) z);have hCn:=Lib.hid (cnt_bd (hSmh.out i j hin (by omega)) (e:=ti - yi) (by omega));(try clear hc6);(try clear hcK);clear hc1;(go_wp2_with fail);refine hNo.out.mono ?_;rintro e z1 ⟨rfl,hb⟩;have HB1:=Lib.hid (below_via HBw.out HBw.out.size hb);clear hb hNo p0 p1;(go_wp2_with fail);refine(hCo.out z1).mono ?_;rintro e z2 ⟨rfl,hb⟩;have HB2:=Lib.hid (below_via HB1.out HB1.out.size hb);have hst:=Lib.hid (hrs.out (cnt (rowsT ps ws i j) (ti - yi)) (by rw[hE.out]));obtain⟨h1b,h2b⟩:=hCn.out;generalize cnt (rowsT ps ws i j) (ti - yi)=cv at *;clear hb hCo hCn hE hrs;go_wp2;go_roundw
        case rel=>exact⟨_,rfl,j+1,by omega,by omega,sv+cv,rfl,by go_num,HB2,hst⟩
        case measure=>simp[intOf];omega
       ·have hb6:((j:Int)==6)=false:=(by simp;omega);by_cases hcK:j=K
        ·have hbK:((j:Int)==(K:Int))=true:=(by simp[hcK]);have hE:Hid (eachP K one yi ti j = -yi+one):=(by show _=_;unfold eachP;rw[if_neg hc1,if_neg hc6,if_pos hcK]);have hCo:=Lib.hid (fun z=>counts_any (rowsT ps ws i j) (-yi+one) (hSmh.out i j hin (by omega)) (by omega) z);have hCn:=Lib.hid (cnt_bd (hSmh.out i j hin (by omega)) (e:=-yi+one) (by omega));(try clear hc6);(try clear hcK);clear hc1;(go_wp2_with fail);refine hNo.out.mono ?_;rintro e z1 ⟨rfl,hb⟩;have HB1:=Lib.hid (below_via HBw.out HBw.out.size hb);clear hb hNo p0 p1;(go_wp2_with fail);refine(hCo.out z1).mono ?_;rintro e z2 ⟨rfl,hb⟩;have HB2:=Lib.hid (below_via HB1.out HB1.out.size hb);have hst:=Lib.hid (hrs.out (cnt (rowsT ps ws i j) (-yi+one)) (by rw[hE.out]));obtain⟨h1b,h2b⟩:=hCn.out;generalize cnt (rowsT ps ws i j) (-yi+one)=cv at *;clear hb hCo hCn hE hrs;go_wp2;go_roundw
         case rel=>exact⟨_,rfl,j+1,by omega,by omega,sv+cv,rfl,by go_num,HB2,hst⟩
         case measure=>simp[intOf];omega
        ·have hbK:((j:Int)==(K:Int))=false:=(by simp;omega);have hE:Hid (eachP K one yi ti j = -yi):=(by show _=_;unfold eachP;rw[if_neg hc1,if_neg hc6,if_neg hcK,Int.add_zero]);have hCo:=Lib.hid (fun z=>counts_any (rowsT ps ws i j) (-yi) (hSmh.out i j hin (by omega)) (by omega) z);have hCn:=Lib.hid (cnt_bd (hSmh.out i j hin (by omega)) (e:=-yi) (by omega));(try clear hc6);(try clear hcK);clear hc1;(go_wp2_with fail);refine hNo.out.mono ?_;rintro e z1 ⟨rfl,hb⟩;have HB1:=Lib.hid (below_via HBw.out HBw.out.size hb);clear hb hNo p0 p1;(go_wp2_with fail);refine(hCo.out z1).mono ?_;rintro e z2 ⟨rfl,hb⟩;have HB2:=Lib.hid (below_via HB1.out HB1.out.size hb);have hst:=Lib.hid (hrs.out (cnt (rowsT ps ws i j) (-yi)) (by rw[hE.out]));obtain⟨h1b,h2b⟩:=hCn.out;generalize cnt (rowsT ps ws i j) (-yi)=cv at *;clear hb hCo hCn hE hrs;go_wp2;go_roundw
         case rel=>exact⟨_,rfl,j+1,by omega,by omega,sv+cv,rfl,by go_num,HB2,hst⟩
         case measure=>simp[intOf];omega
     ·obtain rfl:j=7:=(by omega);rw[show ((7:Nat):Int)=7 from rfl];have hnx:=Lib.hid (hpr.out.trans hsv.out.symm);clear hsv p0 p1;go_wp2;go_roundw
      case rel=>exact⟨_,rfl,i+1,by omega,by rw[hnx.out],by go_num,HBw⟩
      case measure=>simp[intOf];omega
  ·obtain rfl:i=n:=(by omega);have hii:¬(i:Int)<(i:Int):=(by omega);have hpvh:=Lib.hid hpv;clear hpv;go_wp2;go_ret;exact⟨by rw[←hpvh.out];rfl,HBr.out⟩
end Go.Proofs.YtfplipbkjglmhaaDoor
