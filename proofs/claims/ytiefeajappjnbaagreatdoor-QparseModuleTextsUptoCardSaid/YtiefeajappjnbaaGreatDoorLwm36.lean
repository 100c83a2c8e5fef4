/- The law QparseModuleTexts: it says yes. -/
import Derived.Test.YtiefeajappjnbaaGreatDoorGA
import Derived.Test.YtiefeajappjnbaaGreatDoorMtx36
import Derived.Test.YtiefeajappjnbaaGreatDoorML
import Derived.Test.YtiefeajappjnbaaGreatDoorGB
namespace Go.Proofs.YtiefeajappjnbaaGreatDoor
open Go.RowKit
def zvD:ValD:=.mk 0 false ⟨false,⟨#[]⟩,0⟩ ⟨0,0,0,0⟩ ⟨#[]⟩ [] [] []
theorem zeroV_m (w:World) (B N:Nat):ValD.At w B N zvD [.int .i64 0,.bool false,.bool false,.string ⟨#[]⟩,.int .i64 0,.int .i64 0,.int .i64 0,.int .i64 0,.int .i64 0,.string ⟨#[]⟩,.slice none 0 0,.slice none 0 0,.slice none 0 0]:=by
 refine ⟨none,none,none,0,0,0,rfl,?_,.inl rfl,trivial,trivial⟩
 simp [ValD.Own,ValD.kind,ValD.num,ValD.time,ValD.text,ValD.bytes,ValD.list,ValD.fields,I64,ByteArray.size]
theorem holder_m {w:World} {B N b c:Nat} {x:ExprD} {cs:List Value} {l:List FuncD} {fa:Option Addr} (hN1:1≤N) (hb:b<B) (h1:CellsAt w b 0 cs) (hx:ExprD.At w B N x cs) (hl:l.length≤N) (hf:FuncsAt w B N l fa) :
 ExprD.At w B N (.mk 0 ⟨#[]⟩ zvD [x] l)
  [.int .i64 0,.string ⟨#[]⟩,.int .i64 0,.bool false,.bool false,.string ⟨#[]⟩,.int .i64 0,.int .i64 0,.int .i64 0,.int .i64 0,.int .i64 0,.string ⟨#[]⟩,.slice none 0 0,.slice none 0 0,.slice none 0 0,.slice (some ⟨b,0,none⟩) 1 1,.slice fa l.length c]:=by
 refine ⟨_,some ⟨b,0,none⟩,fa,1,c,rfl,?_,zeroV_m w B N,⟨⟨b,0,cs,rfl,hb,h1,hx⟩,trivial⟩,hf,Nat.le_refl _⟩
 simp [ExprD.Own,ExprD.op,ExprD.name,ExprD.args,ExprD.funcs,I64,ByteArray.size]
 exact ⟨hN1,hl⟩
theorem wpList_load_mid_m {P:Program} {ops:Array Oper} {rest:List Oper} {op:Oper} {a:Act} {w:World} {Q:Exit→Act→World→Prop} (hw:Region.wanted op (yielded ops a.tmps)=true) (ty:TypeId) (x:Operand) (ho:op.op=.load ty x)
 (b o:Nat) (hx:a.eval x=.pointer (some ⟨b,o,none⟩)) (cs:List Value) (d:TypeDesc) (hc:w.rangeAt b o cs)
 (hu:P.underlying ty=some d) (hd:d.isRow=true) (hi:(P.info? ty).map (·.size)=some cs.length)
 (h:wpList P ops Q rest (a.put op.dst (.agg cs.toArray)) w):wpList P ops Q (op::rest) a w :=
 wpList_step fun K hK=>by rw [if_pos hw];exact wp_load_mid ty x ho b o hx cs d hc hu hd hi (hK _ _ h)
set_option maxRecDepth 100000 in
set_option maxHeartbeats 6400000 in
theorem lawM (m:ModD) (w:World) (N:Nat) (cs:List Value) (hN:N≤1048576) (hN1:1≤N) (h4:4≤w.heap.size) (hE:Env w) (hm:ModD.At w w.heap.size N m cs) :
 Calls Tryz.prog 4 #[.agg cs.toArray] w (YesT w):=by
 have HM:=Hd hm
 have HE:=Hd hE
 have hlm:=Hd (show (Tryz.prog.info? 44).map (·.size)=some cs.length by rw [hm.len];exact sizeMOD)
 obtain ⟨ia,fa,ic,fc,es,hh⟩:=hm
 obtain ⟨fs,hfs⟩:∃ fs,m.funcs=fs:=⟨_,rfl⟩
 have HFS:=Hd hfs
 have HC2:=Hd (show cs[2]?=some (.slice fa fs.length fc) by rw [hh.cs,← hfs];rfl)
 have HES:=Hd hh.main
 have hle:=Hd (show (Tryz.prog.info? 34).map (·.size)=some es.length by rw [hh.atMain.len];kernel_rfl)
 have R0:=Hd (RowT.new w 44 cs)
 have H0:=Hd (belowBox w (.cells cs.toArray 44))
 have e2:=R0.out.cell HC2.out
 obtain ⟨f,hf⟩:∃ f,modE m=f:=⟨_,rfl⟩
 have HF:=Hd hf
 obtain ⟨s,hs⟩:∃ s,modT m=s:=⟨_,rfl⟩
 have HS:=Hd hs
 clear hf hs
 by_cases hbig:300<fs.length
 ·clear hh hE hfs
  go_enter Tryz.func4,Tryz.ntmps4
  go_wp2_with fail
  go_ret
  exact ⟨rfl,H0.out⟩
 have hfz:=fold_zip0 es zE0 (by rw [hh.atMain.len];rfl)
 have HB2:=Hd (belowThen (belowBox w (.cells cs.toArray 44)) (belowBox (w.alloc (.cells cs.toArray 44)) (.cells es.toArray 34)))
 have hbx:=box_at (w.alloc (.cells cs.toArray 44)) es 34
 rw [World.size_alloc] at hbx
 have HX:=Hd (holder_m (w:=(w.alloc (.cells cs.toArray 44)).alloc (.cells es.toArray 34)) (B:=((w.alloc (.cells cs.toArray 44)).alloc (.cells es.toArray 34)).heap.size) (b:=w.heap.size+1) (c:=fc) (l:=fs) (fa:=fa) hN1 (by rw [World.size_alloc (w.alloc _),World.size_alloc];omega)
  hbx ((hh.atMain.below HB2.out).mono HB2.out.size) (by rw [← hfs];exact hh.hf) (FuncsAt.mono HB2.out.size _ (FuncsAt.below HB2.out _ (by rw [← hfs];exact hh.atFun))))
 have hlen:=hh.atMain.len
 have R1:=Hd (R0.out.alloc (.cells es.toArray 34))
 have e2b:=R1.out.cell HC2.out
 have hbI:¬ (300:Int)<(fs.length:Int):=by omega
 clear hbx hh hE hfs hbig
 go_enter Tryz.func4,Tryz.ntmps4
 go_wp2_with ((with_reducible show wpList _ _ _ (⟨some 13,_,_,_,_,_⟩::_) _ _);refine wpList_load_mid_m ?hw 34 _ rfl w.heap.size 3 rfl es _ (R0.out.cells.partU HES.out) Tryz.underlying34 rfl hle.out ?_;case hw=>kernel_rfl)
 refine (small_x 60 _ _ _ N _ 300 (Nat.le_refl _) (by omega) (by omega) (by omega) (Nat.le_refl _) HX.out).mono ?_
 rintro e w1 ⟨k,rfl,hk0,hk1,HK,hb1⟩
 have H1:=Hd (belowThen HB2.out hb1)
 have R2:=Hd (R1.out.then hb1)
 clear hb1
 by_cases hk:k<0
 ·go_wp2_with fail
  go_ret
  exact ⟨rfl,H1.out⟩
 have HSM:=Hd (smlE_iff.1 (HK.out (by omega)))
 go_wp2_with ((with_reducible show wpList _ _ _ (⟨some 22,_,_,_,_,_⟩::_) _ _);refine wpList_load_mid rfl 44 _ rfl w.heap.size 0 rfl cs _ R2.out.range Tryz.underlying44 rfl hlm.out ?_)
 refine (mtext_p m _ w.heap.size N cs hN h4 H1.out.size (HE.out.then H1.out) (by rw [HFS.out];exact HSM.out.2.2) (fun _=>smlL_get (l:=[m.main]) HSM.out.2.1 0 (by simp)) (HM.out.below H1.out)).mono ?_
 rintro e w2 ⟨rfl,hb2⟩
 have H2:=Hd (belowThen H1.out hb2)
 have R3:=Hd (R2.out.then hb2)
 clear hb2
 rw [HF.out,HS.out]
 go_wp2_with ((with_reducible show wpList _ _ _ (⟨some 27,_,_,_,_,_⟩::_) _ _);refine wpList_load_mid rfl 44 _ rfl w.heap.size 0 rfl cs _ R3.out.range Tryz.underlying44 rfl hlm.out ?_)
 refine (mtext_r m _ w.heap.size N cs hN H2.out.size (HE.out.then H2.out) (HM.out.below H2.out)).mono ?_
 rintro e w3 ⟨rfl,hb3⟩
 have H3:=Hd (belowThen H2.out hb3)
 clear hb3
 rw [HF.out,HS.out]
 have hsb:(s.toList==s.toList)=true:=by simp
 have hfb:(f==f)=true:=by simp
 go_wp2_with fail
 go_ret
 exact ⟨rfl,H3.out⟩
end Go.Proofs.YtiefeajappjnbaaGreatDoor
