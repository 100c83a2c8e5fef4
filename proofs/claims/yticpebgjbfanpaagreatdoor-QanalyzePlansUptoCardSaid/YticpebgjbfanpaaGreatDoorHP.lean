/- What a node is asked for: datakitref36.form and qparse.shape say formB. -/
import Derived.Test.YticpebgjbfanpaaGreatDoorGA
import Derived.Test.YticpebgjbfanpaaGreatDoorFrr36
import Derived.Test.YticpebgjbfanpaaGreatDoorShp36
import Derived.Test.YticpebgjbfanpaaGreatDoorZro
import Derived.Deep.WholeRow
namespace Go.Proofs.YticpebgjbfanpaaGreatDoor
open Go.RowKit
theorem form_out {x:ExprD} (h:¬ (1≤x.op∧x.op≤29)):formB x=false:=by
 rw [Bool.eq_false_iff]
 intro hf
 obtain ⟨h1,h2,_⟩:=of_decide_eq_true hf
 exact h ⟨h1,h2⟩
set_option maxRecDepth 100000 in
theorem form_r_out (x:ExprD) (w:World) (B N:Nat) (cs:List Value) (he:ExprD.At w B N x cs) (h:¬ (1≤x.op∧x.op≤29)):Calls Tryz.prog 111 #[.agg cs.toArray] w (BolR (formB x) w):=by
 obtain ⟨aa,fa,ac,fc,vs,hh⟩:=he.has
 have H0:=Hd (show Below w.heap.size w (w.alloc (.cells cs.toArray 34)) from belowBox w _)
 have HF:=Hd (form_out h)
 have c0:=hh.op
 clear hh he
 by_cases h1:x.op<1
 ·clear h
  go_enter Tryz.func111,Tryz.ntmps111
  go_wp2_with fail
  go_ret
  exact ⟨ret_bool HF.out.symm,H0.out⟩
 ·have h2:29<x.op:=by omega
  have h3:1≤x.op:=by omega
  clear h h1
  go_enter Tryz.func111,Tryz.ntmps111
  go_wp2_with fail
  go_ret
  exact ⟨ret_bool HF.out.symm,H0.out⟩
set_option maxRecDepth 100000 in
theorem shape_p_out (x:ExprD) (w:World) (B N:Nat) (cs:List Value) (hN:N≤1073741824) (he:ExprD.At w B N x cs) (h:¬ (1≤x.op∧x.op≤29)):Calls Tryz.prog 103 #[.agg cs.toArray] w (BolR (formB x) w):=by
 obtain ⟨aa,fa,ac,fc,vs,hh⟩:=he.has
 have hlen:x.args.length≤N:=hh.own.2.2.1
 have H0:=Hd (show Below w.heap.size w (w.alloc (.cells cs.toArray 34)) from belowBox w _)
 have HF:=Hd (form_out h)
 have HC:=Hd (show cntP x.op x.args.length=false by unfold cntP;rw [decide_eq_false_iff_not];omega)
 have c0:=hh.op
 have c15:=hh.args
 clear hh he h
 go_enter Tryz.func103,Tryz.ntmps103
 go_wp2_with fail
 refine (count_p _ x.args.length (by omega) _).mono ?_
 rintro e w1 ⟨rfl,rfl⟩
 rw [HC.out]
 go_wp2_with fail
 go_ret
 exact ⟨ret_bool HF.out.symm,H0.out⟩
theorem kinds {o:Int}:KO o (hasB o):=by
 by_cases h3:o=3
 ·subst h3;simp [KO,hasB,idnB]
 by_cases h7:o=7
 ·subst h7;simp [KO,hasB,idnB]
 by_cases h12:o=12
 ·subst h12;simp [KO,hasB]
 by_cases h13:o=13
 ·subst h13;simp [KO,hasB]
 by_cases h21:o=21
 ·subst h21;simp [KO,hasB]
 by_cases h23:o=23
 ·subst h23;simp [KO,hasB,idnB]
 by_cases h25:o=25
 ·subst h25;simp [KO,hasB,idnB]
 exact .inr (.inr (.inr (.inr (.inr (.inr (.inr (ElseO.mk' h3 h7 h12 h13 h21 h23 h25)))))))
theorem form_r (x:ExprD) (w:World) (B N:Nat) (cs:List Value) (hN:N≤1073741824) (hB:B≤w.heap.size) (he:ExprD.At w B N x cs):Calls Tryz.prog 111 #[.agg cs.toArray] w (BolR (formB x) w):=by
 by_cases h:1≤x.op∧x.op≤29
 ·exact form_r_in x.op _ kinds rfl h x w B N cs hN hB he rfl
 ·exact form_r_out x w B N cs he h
theorem shape_p (x:ExprD) (w:World) (B N:Nat) (cs:List Value) (hN:N≤1073741824) (hB:B≤w.heap.size) (he:ExprD.At w B N x cs) (hsm:x.args.length≤65536):Calls Tryz.prog 103 #[.agg cs.toArray] w (BolR (formB x) w):=by
 by_cases h:1≤x.op∧x.op≤29
 ·exact shape_p_in x.op _ kinds rfl h x w B N cs hN hB he rfl hsm
 ·exact shape_p_out x w B N cs hN he h
end Go.Proofs.YticpebgjbfanpaaGreatDoor

/- The reference's check of expressions (datakitref36.look,kid): it returns what lookE says. -/
namespace Go.Proofs.YticpebgjbfanpaaGreatDoor
open Go.RowKit
abbrev lkE (m:Nat) (e:ExprD) (s:Int):Int×Int:=lookE identB rgB m e s
abbrev kdE (m:Nat) (e:ExprD) (s:Int):Int×Int:=kidE m (lkE m) e s
abbrev ksE (m:Nat) (l:List ExprD) (s:Int):Int×Int:=kidsE m (lkE m) l s
def fnE (m:Nat) (l:List FuncD) (s:Int):Int×Int:=if 256<l.length then (s,10) else funsE identB (lkE m) [] l s
theorem lkE_10 {m:Nat} {x:ExprD} {s:Int} (h:4096≤s):lkE (m+1) x s=(s,10):=by
 show lookE identB rgB (m+1) x s=_
 simp only [lookE];rw [if_pos h]
theorem lkE_1 {m:Nat} {x:ExprD} {s:Int} (h:s<4096) (hf:formB x=false):lkE (m+1) x s=(s+1,1):=by
 show lookE identB rgB (m+1) x s=_
 simp only [lookE];rw [if_neg (by omega),if_pos hf]
theorem lkE_chk {m:Nat} {x:ExprD} {s:Int} (h:s<4096) (hf:formB x=true) (h3:x.op=3) (hc:chkD x.val≠0):lkE (m+1) x s=(s+1,chkD x.val):=by
 show lookE identB rgB (m+1) x s=_
 simp only [lookE];rw [if_neg (by omega),if_neg (by rw [hf];simp),if_pos ⟨h3,hc⟩]
theorem lkE_16 {m:Nat} {x:ExprD} {s:Int} (h:s<4096) (hf:formB x=true) (h3:x.op=3→chkD x.val=0) (hr:rgB x=false):lkE (m+1) x s=(s+1,16):=by
 show lookE identB rgB (m+1) x s=_
 simp only [lookE];rw [if_neg (by omega),if_neg (by rw [hf];simp),if_neg (fun hh=>hh.2 (h3 hh.1)),if_pos hr]
theorem lkE_go {m:Nat} {x:ExprD} {s:Int} (h:s<4096) (hf:formB x=true) (h3:x.op=3→chkD x.val=0) (hr:rgB x=true) :
 lkE (m+1) x s=if (fnE m x.funcs (s+1)).2≠0 then fnE m x.funcs (s+1) else ksE m x.args (fnE m x.funcs (s+1)).1:=by
 show lookE identB rgB (m+1) x s=_
 simp only [lookE];rw [if_neg (by omega),if_neg (by rw [hf];simp),if_neg (fun hh=>hh.2 (h3 hh.1)),if_neg (by rw [hr];simp)]
 unfold fnE
 by_cases h2:256<x.funcs.length
 ·rw [if_pos h2,if_pos h2,if_pos (show ((10:Int))≠0 by decide)]
 ·rw [if_neg h2,if_neg h2]
theorem fnE_nil {m:Nat} {s:Int}:fnE m [] s=(s,0):=rfl
theorem lkE_kids {m:Nat} {x:ExprD} {s:Int} (h:s<4096) (hf:formB x=true) (h3:x.op=3→chkD x.val=0) (hr:rgB x=true) (h23:x.op≠23):lkE (m+1) x s=ksE m x.args (s+1):=by
 rw [lkE_go h hf h3 hr,form_funs hf h23,fnE_nil]
 rfl
theorem ksE_step (m:Nat) {l:List ExprD} {i:Nat} (h:i<l.length) (s:Int):ksE m (l.drop i) s=if (kdE m l[i] s).2≠0 then kdE m l[i] s else ksE m (l.drop (i+1)) (kdE m l[i] s).1:=kidsE_step m (lkE m) h s
theorem lkE_range (m:Nat) (e:ExprD) (s:Int) (h0:0≤s) (h1:s≤4096):0≤(lkE m e s).1∧(lkE m e s).1≤4096:=lookE_range identB rgB m e s h0 h1
theorem kdE_range (m:Nat) (e:ExprD) (s:Int) (h0:0≤s) (h1:s≤4096):0≤(kdE m e s).1∧(kdE m e s).1≤4096:=by
 unfold kdE kidE
 split
 ·split
  ·exact ⟨h0,h1⟩
  ·split
   ·exact ⟨h0,h1⟩
   ·exact ⟨by show 0≤s+1;omega,by show s+1≤4096;omega⟩
 ·exact lkE_range m e s h0 h1
theorem fnE_range (m:Nat) (l:List FuncD) (s:Int) (h0:0≤s) (h1:s≤4096):0≤(fnE m l s).1∧(fnE m l s).1≤4096:=by
 unfold fnE
 split
 ·exact ⟨h0,h1⟩
 ·have:∀ (l:List FuncD) (seen:List ByteArray) (s:Int),0≤s→s≤4096→0≤(funsE identB (lkE m) seen l s).1∧(funsE identB (lkE m) seen l s).1≤4096:=by
   intro l
   induction l with
   | nil=>intro seen s h0 h1;exact ⟨h0,h1⟩
   | cons x r ihl =>
     intro seen s h0 h1
     simp only [funsE]
     split
     ·exact ⟨h0,h1⟩
     ·split
      ·exact lkE_range m _ _ h0 h1
      ·exact ihl _ _ (lkE_range m _ _ h0 h1).1 (lkE_range m _ _ h0 h1).2
  exact this l [] s h0 h1
def PairR (r:Int×Int) (w:World) (e:Ending) (w':World):Prop:=e=.returned (.tuple #[.int .i64 r.1,.int .i64 r.2])∧Below w.heap.size w w'
theorem pair_ret {r:Int×Int} {a b:Int} {w w':World} (h:r=(a,b)) (hb:Below w.heap.size w w'):PairR r w (.returned (.tuple #[.int .i64 a,.int .i64 b])) w':=by subst h;exact ⟨rfl,hb⟩
def LookX (m:Nat):Prop:=∀ (x:ExprD) (w:World) (B N:Nat) (cs:List Value) (depth:Nat) (s:Int),depth+m=49→0≤s→s≤4096→N≤1073741824→B≤w.heap.size→ExprD.At w B N x cs →
 Calls Tryz.prog 76 #[.agg cs.toArray,.int .i64 depth,.int .i64 s] w (PairR (lkE m x s) w)
def FunsX (m:Nat):Prop:=∀ (l:List FuncD) (a:Option Addr) (c:Nat) (w:World) (B N:Nat) (depth:Nat) (s:Int),depth+m=49→0≤s→s≤4096→N≤1073741824→B≤w.heap.size→l.length≤N→FuncsAt w B N l a →
 Calls Tryz.prog 114 #[.slice a l.length c,.int .i64 depth,.int .i64 s,.bool false] w (PairR (fnE m l s) w)
set_option maxRecDepth 100000 in
theorem kid_x (m:Nat) (ih:LookX m) (x:ExprD) (w:World) (B N:Nat) (cs:List Value) (depth:Nat) (s:Int) (hd:depth+m=49) (hs0:0≤s) (hs1:s≤4096) (hN:N≤1073741824) (hB:B≤w.heap.size) (hx:ExprD.At w B N x cs) :
 Calls Tryz.prog 115 #[.agg cs.toArray,.int .i64 depth,.int .i64 s] w (PairR (kdE m x s) w):=by
 have IH:=Hd ih
 have HX:=Hd hx
 have HD:=Hd hd
 have H0:=Hd (show Below w.heap.size w (w.alloc (.cells cs.toArray 34)) from belowBox w _)
 have hl:=Hd (show (Tryz.prog.info? 34).map (·.size)=some cs.length by rw [hx.len];exact sizeE)
 obtain ⟨aa,fa,ac,fc,vs,hh⟩:=hx.has
 have c0:=hh.op
 clear hh hx ih
 by_cases h30:x.op=30
 ·rw [h30] at c0
  have HK:=Hd (show kdE m x s=(if m=0 then (s,9) else if 4096≤s then (s,10) else (s+1,0)) by unfold kdE kidE;rw [if_pos h30])
  clear h30
  by_cases h1:depth≤48
  ·by_cases h2:4096≤s
   ·have HK2:=Hd (show kdE m x s=(s,10) by rw [HK.out,if_neg (by omega),if_pos h2])
    clear hd
    go_enter Tryz.func115,Tryz.ntmps115
    go_wp2_with fail
    go_ret2
    exact pair_ret HK2.out H0.out
   ·have HK2:=Hd (show kdE m x s=(s+1,0) by rw [HK.out,if_neg (by omega),if_neg h2])
    clear hd
    go_enter Tryz.func115,Tryz.ntmps115
    go_wp2_with fail
    go_ret2
    exact pair_ret HK2.out H0.out
  ·have HK2:=Hd (show kdE m x s=(s,9) by rw [HK.out,if_pos (by omega)])
   clear hd
   go_enter Tryz.func115,Tryz.ntmps115
   go_wp2_with fail
   go_ret2
   exact pair_ret HK2.out H0.out
 ·have h30':(x.op==30)=false:=by simpa using h30
  have h30n:(x.op != 30)=true:=by simpa using h30
  obtain ⟨y,z,hyz⟩:∃ y z,lkE m x s=(y,z):=⟨_,_,rfl⟩
  have HY:=Hd hyz
  have HK:=Hd (show kdE m x s=(y,z) by unfold kdE kidE;rw [if_neg h30];exact hyz)
  clear h30 hyz hd
  go_enter Tryz.func115,Tryz.ntmps115
  go_wp2_with (refine wpList_load_mid rfl 34 _ rfl w.heap.size 0 rfl cs _ (box_at w cs 34).range Tryz.underlying34 rfl hl.out ?_)
  refine (IH.out x _ B N cs depth s HD.out hs0 hs1 hN (Nat.le_trans hB H0.out.size) (HX.out.below (H0.out.mono hB))).mono ?_
  rintro e w1 ⟨rfl,hb1⟩
  rw [HY.out]
  have H1:=Hd (belowThen H0.out hb1)
  clear hb1
  go_wp2_with fail
  go_ret2
  exact pair_ret HK.out H1.out
set_option maxRecDepth 100000 in
set_option maxHeartbeats 6400000 in
theorem look_x (m:Nat) (hk:LookX m) (hf:FunsX m):LookX (m+1):=by
 intro x w B N cs depth s hd hs0 hs1 hN hB hx
 have HK:=Hd hk
 have HF:=Hd hf
 have HD:=Hd hd
 have HX:=Hd hx
 have hd':depth≤48:=by omega
 have hl:=Hd (show (Tryz.prog.info? 34).map (·.size)=some cs.length by rw [hx.len];exact sizeE)
 have H0:=Hd (show Below w.heap.size w (w.alloc (.cells cs.toArray 34)) from belowBox w _)
 have HB0:=Hd (box_at w cs 34)
 have hss:=Hd (show w.heap.size<(w.alloc (.cells cs.toArray 34)).heap.size by rw [World.size_alloc];omega)
 obtain ⟨aa,fa,ac,fc,vs,hh⟩:=hx.has
 have c0:=hh.op
 have c15:=hh.args
 have c16:=hh.funcs
 have hal:x.args.length≤N:=hh.own.2.2.1
 have hfl:x.funcs.length≤N:=hh.own.2.2.2
 have hlv:=Hd (show (Tryz.prog.info? 31).map (·.size)=some vs.length by rw [hh.atVal.len];exact sizeV)
 have HA:=Hd hh.atArgs
 have HU:=Hd hh.atFuncs
 have HV:=Hd hh.atVal
 have V0:=Hd (show CellsAt (w.alloc (.cells cs.toArray 34)) w.heap.size (0+2) vs from hh.valRange (box_at w cs 34))
 clear hh hx hk hf hd
 by_cases hs:4096≤s
 ·have HR:=Hd (lkE_10 (m:=m) (x:=x) hs)
  go_enter Tryz.func76,Tryz.ntmps76
  go_wp2_with fail
  go_ret2
  exact pair_ret HR.out H0.out
 have hs:s<4096:=by omega
 have HS:=Hd hs
 have hc:x.op=3∨x.op=23∨((x.op==3)=false∧(x.op==23)=false):=by
  by_cases h3:x.op=3
  ·exact .inl h3
  ·by_cases h4:x.op=23
   ·exact .inr (.inl h4)
   ·exact .inr (.inr ⟨by simpa using h3,by simpa using h4⟩)
 obtain ⟨fb,hfb⟩:∃ b,formB x=b:=⟨_,rfl⟩
 have HFB:=Hd hfb
 obtain ⟨rb,hrb⟩:∃ b,rgB x=b:=⟨_,rfl⟩
 have HRB:=Hd hrb
 clear hfb hrb
 rcases hc with h3 | h23 | ⟨e3,e23⟩
 case' inl =>
  have HO3:=Hd h3
  have HN23:=Hd (show x.op≠23 by omega)
  rw [h3] at c0
  clear h3
 case' inr.inl =>
  have HO23:=Hd h23
  have HNC:=Hd (show x.op=3→chkD x.val=0 from fun h=>by omega)
  rw [h23] at c0
  clear h23
 case' inr.inr =>
  have HN23:=Hd (show x.op≠23 by simpa using e23)
  have HNC:=Hd (show x.op=3→chkD x.val=0 from fun h=>absurd h (by simpa using e3))
 all_goals
  go_enter Tryz.func76,Tryz.ntmps76
  go_wp2_with (refine wpList_load_mid rfl 34 _ rfl w.heap.size 0 rfl cs _ HB0.out.range Tryz.underlying34 rfl hl.out ?_)
  refine (form_r x _ B N cs hN (Nat.le_trans hB H0.out.size) (HX.out.below (H0.out.mono hB))).mono ?_
  rintro e w1 ⟨rfl,hb1⟩
  have R1:=Hd (HB0.out.then hb1 hss.out)
  have V1:=Hd (V0.out.then hb1 hss.out).range
  have H1:=Hd (belowThen H0.out hb1)
  have hs1':=Hd (Nat.lt_of_lt_of_le hss.out hb1.size)
  rw [HFB.out]
  clear hb1
  cases fb
  case false =>
   have HR:=Hd (lkE_1 (m:=m) HS.out HFB.out)
   go_wp2_with fail
   go_ret2
   exact pair_ret HR.out H1.out
  clear HB0 V0 H0 hss
  have d0:=R1.out.get0 c0
  go_wp2_with (first
   | (refine wpList_load_mid rfl 34 _ rfl w.heap.size 0 rfl cs _ R1.out.range Tryz.underlying34 rfl hl.out ?_)
   | (refine wpList_load_mid rfl 31 _ rfl w.heap.size (0+2) rfl vs _ V1.out Tryz.underlying31 rfl hlv.out ?_))
  first
   | (refine (check07_exact x.val _ B N vs (Nat.le_trans hN (by omega)) (Nat.le_trans hB H1.out.size) (HV.out.below (H1.out.mono hB))).mono ?_
      rintro e w2 ⟨rfl,hb2⟩
      have R2:=Hd (R1.out.then hb2 hs1'.out)
      have H2:=Hd (belowThen H1.out hb2)
      have hs2:=Hd (Nat.lt_of_lt_of_le hs1'.out hb2.size)
      clear d0 hb2
      obtain ⟨k2,hk2⟩:∃ k,chkD x.val=k:=⟨_,rfl⟩
      have HC2:=Hd hk2
      rw [hk2]
      clear hk2
      by_cases hk0:k2=0
      case' neg =>
       have HR:=Hd (show lkE (m+1) x s=(s+1,k2) by rw [lkE_chk HS.out HFB.out HO3.out (by rw [HC2.out];exact hk0),HC2.out])
       have hk1:(k2 != 0)=true:=by simpa using hk0
       have hk2:(k2==0)=false:=by simpa using hk0
       go_wp2_with fail
       go_ret2
       exact pair_ret HR.out H2.out
      case' pos =>
       subst hk0
       have HNC:=Hd (show x.op=3→chkD x.val=0 from fun _=>HC2.out)
       have d0:=R2.out.get0 c0
       go_wp2_with (refine wpList_load_mid rfl 34 _ rfl w.heap.size 0 rfl cs _ R2.out.range Tryz.underlying34 rfl hl.out ?_))
   | (obtain ⟨w2,rfl⟩:∃ w2,w2=w1:=⟨w1,rfl⟩
      have R2:=R1
      have H2:=H1
      have hs2:=hs1'
      clear R1 H1 hs1')
  refine (right_r x _ B N cs hN (HX.out.below (H2.out.mono hB))).mono ?_
  rintro e w3 ⟨rfl,hb3⟩
  have R3:=Hd (R2.out.then hb3 hs2.out)
  have H3:=Hd (belowThen H2.out hb3)
  have hs3:=Hd (Nat.lt_of_lt_of_le hs2.out hb3.size)
  rw [HRB.out]
  clear d0 hb3 R2 H2 hs2
  cases rb
  case false =>
   have HR:=Hd (lkE_16 (m:=m) HS.out HFB.out HNC.out HRB.out)
   go_wp2_with fail
   go_ret2
   exact pair_ret HR.out H3.out
  have d0:=R3.out.get0 c0
  have d15:=R3.out.get0 c15
  have d16:=R3.out.get0 c16
  go_wp2_with fail
  first
   | (refine (HF.out x.funcs fa fc _ B N (depth+1) (s+1) (by have:=HD.out;omega) (by omega) (by omega) hN (Nat.le_trans hB H3.out.size) hfl (FuncsAt.below (H3.out.mono hB) _ HU.out)).mono ?_
      rintro e w4 ⟨rfl,hb4⟩
      have R4:=Hd (R3.out.then hb4 hs3.out)
      have H4:=Hd (belowThen H3.out hb4)
      have hs4:=Hd (Nat.lt_of_lt_of_le hs3.out hb4.size)
      clear d0 d15 d16 hb4 R3 H3 hs3
      have HRG:=Hd (fnE_range m x.funcs (s+1) (by omega) (by omega))
      obtain ⟨n4,f4,h4⟩:∃ a b,fnE m x.funcs (s+1)=(a,b):=⟨_,_,rfl⟩
      have HG0:=lkE_go (m:=m) HS.out HFB.out HNC.out HRB.out
      rw [h4] at HG0 HRG ⊢
      have HGO:=Hd HG0
      clear h4 HG0
      by_cases hf4:f4=0
      case' neg =>
       have HR:=Hd (show lkE (m+1) x s=(n4,f4) by rw [HGO.out,if_pos hf4])
       have hk1:(f4 != 0)=true:=by simpa using hf4
       have hk2:(f4==0)=false:=by simpa using hf4
       go_wp2_with fail
       go_ret2
       exact pair_ret HR.out H4.out
      case' pos =>
       subst hf4
       have HKS:=Hd (show lkE (m+1) x s=ksE m x.args n4 by rw [HGO.out,if_neg (by simp)])
       have HN4:=Hd (show 0≤n4∧n4≤4096 from HRG.out)
       go_wp2_with fail)
   | (obtain ⟨w4,rfl⟩:∃ w4,w4=w3:=⟨w3,rfl⟩
      have R4:=R3
      have H4:=H3
      have hs4:=hs3
      have HKS:=Hd (lkE_kids (m:=m) HS.out HFB.out HNC.out HRB.out HN23.out)
      have HN4:=Hd (show 0≤s+1∧s+1≤4096 by omega)
      clear R3 H3 hs3 d0 d15 d16)
  go_simp
  go_loopw [2,11] (fun sv i wr=>∃ (y:Int) (k:Nat),k≤x.args.length∧lkE (m+1) x s=ksE m (x.args.drop k) y∧0≤y∧y≤4096∧sv=.int .i64 y∧i=.int .i64 k∧Below w4.heap.size w4 wr) (fun _ i _=>x.args.length-(intOf i).toNat)
  case atStart=>exact ⟨_,0,by omega,HKS.out,HN4.out.1,HN4.out.2,rfl,rfl,Below.refl _ _⟩
  case round =>
   obtain ⟨y,k,hk,hi,hy0,hy1,rfl,rfl,hbel⟩:=hrel
   have HI:=Hd hi
   have HB:=Hd hbel
   have R5:=Hd (R4.out.below hbel hs4.out)
   clear hi hbel
   have d15:=R5.out.get0 c15
   by_cases hlt:k<x.args.length
   ·have HST:=Hd (ksE_step m hlt y)
    have HKR:=Hd (kdE_range m x.args[k] y hy0 hy1)
    obtain ⟨b,p,rfl,hb,hget⟩:=HA.out.get (by intro h;simp [h] at hlt)
    obtain ⟨es,g1,g2⟩:=hget k hlt
    have hBw4:=Nat.le_trans hB H4.out.size
    have HR:=Hd ((g1.below H4.out (Nat.lt_of_lt_of_le hb hB)).below HB.out (Nat.lt_of_lt_of_le hb hBw4)).range
    have HE:=Hd ((g2.below (H4.out.mono hB)).below (HB.out.mono hBw4))
    have hle:=Hd (show (Tryz.prog.info? 34).map (·.size)=some es.length by rw [g2.len];exact sizeE)
    clear g1 g2 hget
    go_wp2_with (refine wpList_load_mid rfl 34 _ rfl b (p+k * 17) rfl es _ HR.out Tryz.underlying34 rfl hle.out ?_)
    refine (kid_x m HK.out x.args[k] _ B N es (depth+1) y (by have:=HD.out;omega) hy0 hy1 hN (Nat.le_trans hBw4 HB.out.size) HE.out).mono ?_
    rintro e1 w6 ⟨rfl,hb6⟩
    have HB6:=Hd (belowThen HB.out hb6)
    clear hb6
    obtain ⟨y6,z6,h6⟩:∃ a b,kdE m x.args[k] y=(a,b):=⟨_,_,rfl⟩
    rw [h6] at HST HKR ⊢
    clear h6
    by_cases hz:z6=0
    ·subst hz
     have HS6:=Hd (show lkE (m+1) x s=ksE m (x.args.drop (k+1)) y6 by rw [HI.out,HST.out,if_neg (by simp)])
     go_wp2_with fail
     go_roundw
     case rel=>exact ⟨y6,k+1,by omega,HS6.out,HKR.out.1,HKR.out.2,rfl,by go_num,HB6.out⟩
     case measure=>simp [intOf];omega
    ·have HS6:=Hd (show lkE (m+1) x s=(y6,z6) by rw [HI.out,HST.out,if_pos hz])
     have hz1:(z6 != 0)=true:=by simpa using hz
     have hz2:(z6==0)=false:=by simpa using hz
     go_wp2_with fail
     go_ret2
     exact pair_ret HS6.out (belowThen H4.out HB6.out)
   ·have HS6:=Hd (show lkE (m+1) x s=(y,0) by rw [HI.out,List.drop_eq_nil_of_le (by omega)];rfl)
    go_wp2_with fail
    go_ret2
    exact pair_ret HS6.out (belowThen H4.out HB.out)
end Go.Proofs.YticpebgjbfanpaaGreatDoor
