/-
  Walks through package caissonref05: coefficients, Mul, Inverse, Substitute, Sub.
-/
import Derived.Test.YtjboelhcieepkaaGreatDoorZ11
import Derived.BigRegion
import Derived.Deep.AppendLies
import Derived.StillTailTactics
import Derived.Deep.RegionWith
import Derived.Deep.MidRow
namespace Go.Proofs.YtjboelhcieepkaaGreatDoor
set_option maxRecDepth 16384
open Go.RowKit
theorem int_info:(Tryz.prog.info? 3).map (fun i=>(i.zero,i.size,i.bytes))=some (some (.int .i64 0),1,8):=by kernel_rfl
def coef(a:Nat)(n:Nat):List Value:=(List.range n).map fun i=>Value.int .i64 ((a:Int) / 2 ^ i%2)
theorem coef_succ(a n:Nat):coef a (n+1)=coef a n++[Value.int .i64 ((a:Int) / 2 ^ n%2)]:=by
 unfold coef;rw [List.range_succ,List.map_append];rfl
theorem shr_bounds(a k:Nat)(ha:a<256):0≤(a:Int) / 2 ^ k∧(a:Int) / 2 ^ k≤255:=by
 have e:(a:Int) / 2 ^ k=((a / 2 ^ k:Nat):Int):=by rw [Int.natCast_ediv,Int.natCast_pow];rfl
 rw [e]
 have:=Nat.div_le_self a (2 ^ k)
 generalize a / 2 ^ k=q at *
 omega
set_option maxHeartbeats 400000 in
theorem coef_any(a:Nat)(ha:a<256)(w:World):
 Calls Tryz.prog 296 #[.int .u8 (a:Int)] w fun e w'=>∃v,e=.returned v∧w'.ownsRow w.heap.size 3 1 v 8 (coef a 8)∧Below w.heap.size w w':=by
 obtain ⟨i0,hi,hz0,hz1,hz2⟩:=info_parts int_info
 go_enter Tryz.func296,Tryz.ntmps296
 go_wp2
 go_loopw [3,4] (fun v i wr=>∃k:Nat,k≤8∧i=.int .i64 (k:Int)∧wr.ownsRow w.heap.size 3 1 v k (coef a k)∧Below w.heap.size w wr) (fun _ i _=>8-(intOf i).toNat)
 case atStart=>exact ⟨0,by omega,rfl,⟨by simp [coef],.inl ⟨rfl,rfl⟩⟩,Below.refl _ _⟩
 case round =>
  obtain ⟨k,hk,rfl,hown,hb⟩:=hrel
  by_cases hlt:k<8
  ·obtain ⟨hp0,hp1⟩:=shr_bounds a k ha
   have hnew:∀j u,[Value.int .i64 ((a:Int) / 2 ^ k%2)][j]?=some u→(wr.alloc (Obj.cells #[Value.int .i64 ((a:Int) / 2 ^ k%2)] 3)).cell? ((⟨wr.heap.size,0,none⟩:Addr).add j)=some u:=by
    intro j u hu
    cases j with
    |zero=>simp at hu;subst hu;exact World.cell?_alloc_at _ _ _ _ rfl
    |succ j=>simp at hu
   have hnew':=Lib.hid hnew
   clear hnew
   go_wp2_with (at_builtin;refine wpList_append_own _ rfl (.tmp 9) (.tmp 15) 38 rfl w.heap.size 3 i0 (.int .i64 0) 1 8 Tryz.underlying38 hi hz0 hz1 hz2 rfl (by decide) _ k (coef a k) rfl (hown.alloc _) ⟨wr.heap.size,0,none⟩ 1 1 [_] rfl rfl hnew'.out (by intro u hu;simp at hu;subst hu;rfl) (by unfold maxLen;omega) (by omega) (by have:=hb.size;simp;omega) ?_;intro v' w1 hown' hgrow _)
   go_roundw
   case rel=>exact ⟨k+1,by omega,by go_num,by rw [coef_succ];exact hown',(hb.alloc hb.size _).grown hgrow (by have:=hb.size;simp;omega) (fun j hj=>(hown.lt j hj).1)⟩
   case measure=>simp [intOf];omega
  ·obtain rfl:k=8:=by omega
   go_wp2
   go_ret
   exact ⟨_,rfl,hown,hb⟩
def bi(b:Bool):Int:=if b then 1 else 0
def p0:Array Value:=Array.replicate 15 (Value.int .i64 0)
theorem make15(u:World):(Instr.makeSlice 38 (.int .i64 15) (.int .i64 15)).run Tryz.prog u=.ok (.slice (some ⟨u.heap.size,0,none⟩) 15 15) (u.alloc (.cells p0 3)):=by kernel_rfl
theorem p0_get(m:Nat)(hm:m<15):p0[m]?=some (.int .i64 (bi false)):=by
 unfold p0;rw [Array.getElem?_replicate,if_pos hm];rfl
theorem coef_get(a m n:Nat)(hm:m<n):(coef a n)[m]?=some (.int .i64 (bi (a.testBit m))):=by
 unfold coef
 rw [List.getElem?_map,List.getElem?_range hm]
 have e:(a:Int) / 2 ^ m%2=((a / 2 ^ m%2:Nat):Int):=by rw [Int.natCast_emod,Int.natCast_ediv,Int.natCast_pow];rfl
 simp only [Option.map_some,e,Nat.testBit_eq_decide_div_mod_eq,bi]
 have:=Nat.mod_lt (a / 2 ^ m) (show 0<2 by omega)
 split<;>(rename_i h;simp at h;congr 2;omega)
theorem bi_b(b:Bool):0≤bi b∧bi b≤1:=by cases b<;>simp [bi]
theorem bi_mul(b c:Bool):0≤bi b*bi c∧bi b*bi c≤1:=by cases b<;>cases c<;>simp [bi]
structure MulMem(a b G gx gy:Nat)(P:Nat→Bool)(w wr:World):Prop where
 p:∀m,m<15→wr.cell? ⟨G,m,none⟩=some (.int .i64 (bi (P m)))
 f:∀m,wr.frozen? ⟨G,m,none⟩=false
 x:∀m,m<8→wr.cell? ⟨gx,m,none⟩=some (.int .i64 (bi (a.testBit m)))
 y:∀m,m<8→wr.cell? ⟨gy,m,none⟩=some (.int .i64 (bi (b.testBit m)))
 bel:Below G w wr
theorem MulMem.store{a b G gx gy:Nat}{P P':Nat→Bool}{w wr:World}(h:MulMem a b G gx gy P w wr)(hx:G<gx)(hy:G<gy)(j:Nat)(hj:j<15)(v:Int)(hv:v=bi (P' j))
 (ho:∀m,m≠j→P' m=P m):MulMem a b G gx gy P' w (wr.setCell ⟨G,j,none⟩ (.int .i64 v)):=by
 refine ⟨fun m hm=>?_,fun m=>?_,fun m hm=>?_,fun m hm=>?_,h.bel.setCell (Nat.le_refl G) _⟩
 ·by_cases e:m=j
  ·subst e;rw [cell_set_same (h.p m hm),hv]
  ·rw [cell_set_off (Ne.symm e),h.p m hm,ho m e]
 ·rw [World.frozen?_setCell];exact h.f m
 ·rw [cell_set_blk (by omega),h.x m hm]
 ·rw [cell_set_blk (by omega),h.y m hm]
theorem MulMem.four{a b G gx gy:Nat}{P:Nat→Bool}{w wr:World}(h:MulMem a b G gx gy P w wr)(hx:G<gx)(hy:G<gy)(n:Nat)(h8:7<n)(h14:n≤14)(hb:P n=true):
 MulMem a b G gx gy (Gf.rdI P n) w ((((wr.setCell ⟨G,n-4,none⟩ (.int .i64 (1-bi (P (n-4))))).setCell ⟨G,n-5,none⟩ (.int .i64 (1-bi (P (n-5))))).setCell ⟨G,n-7,none⟩ (.int .i64 (1-bi (P (n-7))))).setCell ⟨G,n-8,none⟩ (.int .i64 (1-bi (P (n-8))))):=by
 have e1:∀c:Bool,1-bi c=bi (!c):=by intro c;cases c<;>rfl
 have s1:=h.store (P':=fun m=>if m=n-4 then !P m else P m) hx hy (n-4) (by omega) (1-bi (P (n-4))) (by simp [e1]) (fun m hm=>if_neg hm)
 have s2:=s1.store (P':=fun m=>if m=n-4∨m=n-5 then !P m else P m) hx hy (n-5) (by omega) (1-bi (P (n-5))) (by simp [e1]) (fun m hm=>by simp [hm])
 have s3:=s2.store (P':=fun m=>if m=n-4∨m=n-5∨m=n-7 then !P m else P m) hx hy (n-7) (by omega) (1-bi (P (n-7))) (by simp [e1]) (fun m hm=>by simp [hm])
 exact s3.store (P':=Gf.rdI P n) hx hy (n-8) (by omega) (1-bi (P (n-8))) (by simp [e1,Gf.rdI,hb]) (fun m hm=>by simp [hm,Gf.rdI,hb])
theorem MulMem.drew_{a b G gx gy:Nat}{P:Nat→Bool}{w wr:World}(h:MulMem a b G gx gy P w wr):MulMem a b G gx gy P w wr.drew :=
 ⟨h.p,h.f,h.x,h.y,h.bel.drew⟩
theorem MulMem.cong{a b G gx gy:Nat}{P P':Nat→Bool}{w wr:World}(h:MulMem a b G gx gy P w wr)(e:∀m,P' m=P m):MulMem a b G gx gy P' w wr :=
 ⟨fun m hm=>by rw [e];exact h.p m hm,h.f,h.x,h.y,h.bel⟩
theorem rd_succ(p:Nat→Bool)(n:Nat)(h7:7<n)(h14:n≤14):Gf.rd p (14-(n-1))=Gf.rdI (Gf.rd p (14-n)) n:=by
 have e:14-(n-1)=(14-n)+1:=by omega
 rw [e]
 show Gf.rdI (Gf.rd p (14-n)) (14-(14-n))=_
 rw [show 14-(14-n)=n from by omega]
theorem rd_no(p:Nat→Bool)(n m:Nat)(h7:7<n)(h14:n≤14)(hb:Gf.rd p (14-n) n=false):Gf.rd p (14-(n-1)) m=Gf.rd p (14-n) m:=by
 rw [rd_succ p n h7 h14];unfold Gf.rdI;rw [hb];simp
theorem outN_lt(R:Nat→Bool)(j:Nat):Gf.outN R j<2 ^ j:=by
 induction j with
 |zero=>simp [Gf.outN]
 |succ j ih=>simp only [Gf.outN];rw [Nat.pow_succ];cases R (7-j)<;>simp<;>omega
theorem outN_int(R:Nat→Bool)(j:Nat):((Gf.outN R (j+1):Nat):Int)=2*(Gf.outN R j:Nat)+bi (R (7-j)):=by
 simp only [Gf.outN];cases R (7-j)<;>simp [bi]
theorem cf_step(a b i k m:Nat)(hk:k<8)(hm:m≠i+k):Gf.cf a b (8*i+k+1) m=Gf.cf a b (8*i+k) m:=by
 have e1:(8*i+k) / 8=i:=by omega
 have e2:(8*i+k)%8=k:=by omega
 simp only [Gf.cf,e1,e2,if_neg hm]
set_option maxHeartbeats 400000 in
theorem rmul_any(a b:Nat)(ha:a<256)(hb:b<256)(w:World):
 Calls Tryz.prog 292 #[.int .u8 (a:Int),.int .u8 (b:Int)] w fun e w'=>e=.returned (.int .u8 (Gf.gm a b:Nat))∧Below w.heap.size w w':=by
 have hmk:=make15
 go_enter Tryz.func292,Tryz.ntmps292
 go_wp2_with fail
 refine (coef_any a ha _).mono ?_
 rintro e w1 ⟨v1,rfl,hown1,hb1⟩
 go_wp2_with fail
 refine (coef_any b hb _).mono ?_
 rintro e w2 ⟨v2,rfl,hown2,hb2⟩
 obtain ⟨gx,cx,rfl,hgx,hgx'⟩:=hown1.form (by omega)
 obtain ⟨gy,cy,rfl,hgy,hgy'⟩:=hown2.form (by omega)
 have hG1:w.heap.size<w1.heap.size:=by have:=hb1.size;simp at this;omega
 have hG2:w1.heap.size≤w2.heap.size:=hb2.size
 have hx:∀m,m<8→w2.cell? ⟨gx,m,none⟩=some (.int .i64 (bi (a.testBit m))):=fun m hm=>by
  rw [hb2.cell (p:=⟨gx,m,none⟩) hgx',hown1.cellAt m (by omega),coef_get a m 8 hm]
 have hy:∀m,m<8→w2.cell? ⟨gy,m,none⟩=some (.int .i64 (bi (b.testBit m))):=fun m hm=>by
  rw [hown2.cellAt m (by omega),coef_get b m 8 hm]
 have hp:∀m,m<15→w2.cell? ⟨w.heap.size,m,none⟩=some (.int .i64 (bi false)):=fun m hm=>by
  rw [hb2.cell (p:=⟨w.heap.size,m,none⟩) hG1,hb1.cell (p:=⟨w.heap.size,m,none⟩) (by simp),World.cell?_alloc_at _ _ _ _ rfl]
  exact p0_get m hm
 have hf:∀m,w2.frozen? ⟨w.heap.size,m,none⟩=false:=fun m=>by
  rw [hb2.frozen (p:=⟨w.heap.size,m,none⟩) hG1,hb1.frozen (p:=⟨w.heap.size,m,none⟩) (by simp),World.frozen?_alloc_at _ _ _ _ rfl]
 have hbw:Below w.heap.size w w2:=below_trans ((Below.refl _ _).alloc (Nat.le_refl _) _) (below_trans hb1 hb2)
 have hgx2:w.heap.size<gx:=by simp at hgx;omega
 have hgy2:w.heap.size<gy:=by omega
 generalize hGG:w.heap.size=G at *
 clear hown1 hown2 hb1 hb2 hmk hgx hgy hgx' hgy' hG1 hG2
 go_wp2
 go_loopw [8,9] (fun s _ wr=>∃i:Nat,i≤8∧s=.int .i64 (i:Int)∧MulMem a b G gx gy (Gf.cf a b (8*i)) w wr) (fun s _ _=>8-(intOf s).toNat)
 case atStart=>exact ⟨0,by omega,rfl,hp,hf,hx,hy,hbw⟩
 case round =>
  obtain ⟨i,hi,rfl,hmem⟩:=hrel
  by_cases hlt:i<8
  ·obtain ⟨wo,rfl⟩:∃wo:World,wo=wr:=⟨_,rfl⟩
   have hlt':(i:Int)<8:=by omega
   go_wp2
   go_loopw [9] (fun s wr=>∃k:Nat,k≤8∧s=.int .i64 (k:Int)∧MulMem a b G gx gy (Gf.cf a b (8*i+k)) w wr) (fun s _=>8-(intOf s).toNat)
   case atStart=>exact ⟨0,by omega,rfl,hmem⟩
   case round =>
    obtain ⟨k,hk,rfl,hmem⟩:=hrel
    by_cases hlk:k<8
    ·have hlk':(k:Int)<8:=by omega
     have cp:=hmem.p (i+k) (by omega)
     have cx:=hmem.x i hlt
     have cy:=hmem.y k hlk
     have cf:=hmem.f (i+k)
     have hval:(bi (Gf.cf a b (8*i+k) (i+k))+bi (a.testBit i)*bi (b.testBit k))%2=bi (Gf.cf a b (8*i+k+1) (i+k)):=by
      have e1:(8*i+k) / 8=i:=by omega
      have e2:(8*i+k)%8=k:=by omega
      simp only [Gf.cf,e1,e2,if_true]
      cases Gf.cf a b (8*i+k) (i+k)<;>cases a.testBit i<;>cases b.testBit k<;>rfl
     have hval':=Lib.hid hval
     clear hval
     have b1:=bi_b (Gf.cf a b (8*i+k) (i+k))
     have b2:=bi_b (a.testBit i)
     have b3:=bi_b (b.testBit k)
     have b4:=bi_mul (a.testBit i) (b.testBit k)
     obtain ⟨b10,b11⟩:=b1
     obtain ⟨b20,b21⟩:=b2
     obtain ⟨b30,b31⟩:=b3
     obtain ⟨b40,b41⟩:=b4
     generalize bi (Gf.cf a b (8*i+k) (i+k))=q1 at *
     generalize bi (a.testBit i)=q2 at *
     generalize bi (b.testBit k)=q3 at *
     go_wp2
     go_region
     all_goals go_wp2
     all_goals go_roundw
     case rel =>
      exact ⟨k+1,by omega,by go_num,(hmem.store hgx2 hgy2 (i+k) (by omega) _ hval'.out (fun m hm=>cf_step a b i k m hlk hm)).drew_⟩
     case measure=>simp [intOf];omega
    ·obtain rfl:k=8:=by omega
     go_wp2
     go_roundw
     case rel=>exact ⟨i+1,by omega,by go_num,hmem⟩
     case measure=>simp [intOf];omega
  ·obtain rfl:i=8:=by omega
   go_wp2
   go_loopw [10] (fun s wr=>∃n:Nat,7≤n∧n≤14∧s=.int .i64 (n:Int)∧MulMem a b G gx gy (Gf.rd (Gf.cf a b 64) (14-n)) w wr) (fun s _=>(intOf s).toNat)
   case atStart=>exact ⟨14,by omega,by omega,rfl,hmem⟩
   case round =>
    obtain ⟨n,hn,hn',rfl,hmem⟩:=hrel
    by_cases hlt:7<n
    ·have hlt':7<(n:Int):=by omega
     have h14:(n:Int)≤14:=by omega
     have ci:=hmem.p n (by omega)
     have c4:=hmem.p (n-4) (by omega)
     have c5:=hmem.p (n-5) (by omega)
     have c7:=hmem.p (n-7) (by omega)
     have c8:=hmem.p (n-8) (by omega)
     have f4:=hmem.f (n-4)
     have f5:=hmem.f (n-5)
     have f7:=hmem.f (n-7)
     have f8:=hmem.f (n-8)
     have n45:¬ n-4=n-5:=by omega
     have n47:¬ n-4=n-7:=by omega
     have n48:¬ n-4=n-8:=by omega
     have n57:¬ n-5=n-7:=by omega
     have n58:¬ n-5=n-8:=by omega
     have n78:¬ n-7=n-8:=by omega
     obtain ⟨b40,b41⟩:=bi_b (Gf.rd (Gf.cf a b 64) (14-n) (n-4))
     obtain ⟨b50,b51⟩:=bi_b (Gf.rd (Gf.cf a b 64) (14-n) (n-5))
     obtain ⟨b70,b71⟩:=bi_b (Gf.rd (Gf.cf a b 64) (14-n) (n-7))
     obtain ⟨b80,b81⟩:=bi_b (Gf.rd (Gf.cf a b 64) (14-n) (n-8))
     cases hbit:Gf.rd (Gf.cf a b 64) (14-n) n
     ·rw [hbit] at ci
      have ci':wr.cell? ⟨G,n,none⟩=some (.int .i64 0):=ci
      clear ci
      have hbit':=Lib.hid hbit
      clear hbit
      go_wp2
      go_roundw
      case rel=>exact ⟨n-1,by omega,by omega,by go_num,hmem.cong fun m=>rd_no _ n m hlt hn' hbit'.out⟩
      case measure=>simp [intOf];omega
     ·rw [hbit] at ci
      have ci':wr.cell? ⟨G,n,none⟩=some (.int .i64 1):=ci
      clear ci
      have hbit':=Lib.hid hbit
      clear hbit
      go_wp2
      go_roundw
      case rel =>
       refine ⟨n-1,by omega,by omega,by go_num,?_⟩
       rw [rd_succ _ n hlt hn']
       exact hmem.four hgx2 hgy2 n hlt hn' hbit'.out
      case measure=>simp [intOf];omega
    ·obtain rfl:n=7:=by omega
     have hm0:MulMem a b G gx gy (Gf.rd (Gf.cf a b 64) 7) w wr:=hmem
     clear hmem
     generalize hR:Gf.rd (Gf.cf a b 64) 7=R at *
     have hR':=Lib.hid hR
     clear hR
     go_wp2
     go_loopw [11,12] (fun o s wr'=>∃j:Nat,j≤8∧s=.int .i64 (7-(j:Int))∧o=.int .i64 (Gf.outN R j:Nat)∧wr'=wr) (fun _ s _=>(intOf s+1).toNat)
     case atStart=>exact ⟨0,by omega,rfl,rfl,rfl⟩
     case round =>
      obtain ⟨j,hj,rfl,rfl,rfl⟩:=hrel
      have ho:=outN_lt R j
      have ho2:Gf.outN R j<256:=by
       have:=Nat.pow_le_pow_right (n:=2) (by omega) hj;omega
      by_cases hlt:j<8
      ·have cj:=hm0.p (7-j) (by omega)
       obtain ⟨b10,b11⟩:=bi_b (R (7-j))
       have hidx:((7:Int)-(j:Int)).toNat=7-j:=by omega
       go_wp2
       go_roundw
       case rel=>exact ⟨j+1,by omega,by go_num,by rw [outN_int],by trivial⟩
       case measure=>simp [intOf];omega
      ·obtain rfl:j=8:=by omega
       go_wp2
       go_ret
       refine ⟨ret_int ?_,by rw [hGG];exact hm0.bel⟩
       rw [←hR'.out]
       exact congrArg Nat.cast (Gf.rm_eq a b ha hb)
end Go.Proofs.YtjboelhcieepkaaGreatDoor
namespace Go.Proofs.YtjboelhcieepkaaGreatDoor
set_option maxRecDepth 16384
open Go.RowKit
def sbSum(x i:Nat):Nat→Nat
 |0=>99 / 2 ^ i
 |k+1=>sbSum x i k+x / 2 ^ ((i+(4+k))%8)
def sbOut(x:Nat):Nat→Nat
 |0=>0
 |j+1=>2*sbOut x j+sbSum x (7-j) 5%2
theorem sb_eq:∀x,x<256→sbOut x 8=Gf.aff x:=by decide +kernel
theorem sbSum_lt(x i k:Nat)(hx:x<256):sbSum x i k≤99+256*k:=by
 induction k with
 |zero=>simp only [sbSum];have:=Nat.div_le_self 99 (2 ^ i);omega
 |succ k ih=>simp only [sbSum];have:=Nat.div_le_self x (2 ^ ((i+(4+k))%8));omega
theorem sbOut_lt(x j:Nat):sbOut x j<2 ^ j:=by
 induction j with
 |zero=>simp [sbOut]
 |succ j ih=>simp only [sbOut];rw [Nat.pow_succ];omega
set_option maxHeartbeats 400000 in
theorem subst_any(x:Nat)(hx:x<256)(w:World):
 Calls Tryz.prog 295 #[.int .u8 (x:Int)] w fun e w'=>e=.returned (.int .u8 (Gf.aff x:Nat))∧w=w':=by
 go_enter Tryz.func295,Tryz.ntmps295
 go_wp2
 go_loop [3,4] (fun o s=>∃j:Nat,j≤8∧s=.int .i64 (7-(j:Int))∧o=.int .i64 (sbOut x j:Nat)) (fun _ s=>(intOf s+1).toNat)
 case atStart=>exact ⟨0,by omega,rfl,rfl⟩
 case round =>
  obtain ⟨j,hj,rfl,rfl⟩:=hrel
  have ho:=sbOut_lt x j
  have ho2:sbOut x j<256:=by
   have:=Nat.pow_le_pow_right (n:=2) (by omega) hj;omega
  by_cases hlt:j<8
  ·have hlt':(j:Int)<8:=by omega
   go_wp2
   go_loop [5,6] (fun t s=>∃k:Nat,k≤5∧s=.int .i64 (4+(k:Int))∧t=.int .i64 (sbSum x (7-j) k:Nat)) (fun _ s=>9-(intOf s).toNat)
   case atStart=>exact ⟨0,by omega,rfl,by simp only [sbSum];rw [Int.natCast_ediv,Int.natCast_pow];rfl⟩
   case round =>
    obtain ⟨k,hk,rfl,rfl⟩:=hrel
    have hs:=sbSum_lt x (7-j) k hx
    by_cases hlk:k<5
    ·have hlk':(k:Int)<5:=by omega
     have hmod:(((7:Int)-(j:Int))+(4+(k:Int)))%8=(((7-j+(4+k))%8:Nat):Int):=by omega
     obtain ⟨p0,p1⟩:=shr_bounds x ((7-j+(4+k))%8) hx
     go_wp2
     go_round
     case rel=>exact ⟨k+1,by omega,by go_num,by simp only [sbSum];rw [Int.natCast_add,Int.natCast_ediv,Int.natCast_pow];rfl⟩
     case measure=>simp [intOf];omega
    ·obtain rfl:k=5:=by omega
     go_wp2
     go_round
     case rel=>exact ⟨j+1,by omega,by go_num,by simp only [sbOut];go_num⟩
     case measure=>simp [intOf];omega
  ·obtain rfl:j=8:=by omega
   go_wp2
   go_ret
   exact ⟨ret_int (by rw [sb_eq x hx]),rfl⟩
end Go.Proofs.YtjboelhcieepkaaGreatDoor
namespace Go.Proofs.YtjboelhcieepkaaGreatDoor
set_option maxRecDepth 16384
open Go.RowKit
def z256:List Nat:=List.replicate 256 0
theorem zv30(w:World):(zeroValue 465).run Tryz.prog w=.ok (.agg (va .u8 z256)) w:=by kernel_rfl
theorem z256_len:z256.length=256:=List.length_replicate ..
theorem getD_set_eq{l:List Nat}{i v:Nat}(h:i<l.length):(l.set i v).getD i 0=v:=by
 simp [List.getD_eq_getElem?_getD,h]
theorem getD_set_ne{l:List Nat}{i j v:Nat}(h:i≠j):(l.set i v).getD j 0=l.getD j 0:=by
 simp [List.getD_eq_getElem?_getD,h]
structure TabMem(G:Nat)(o p:List Nat)(w wr:World):Prop where
 r:Blk wr G 465 (va .u8 z256)
 bo:Blk wr (G+1) 465 (va .u8 o)
 bp:Blk wr (G+1+1) 465 (va .u8 p)
 ol:o.length=256
 pl:p.length=256
 bel:Below G w wr
theorem TabMem.setP{G:Nat}{o p:List Nat}{w wr:World}(h:TabMem G o p w wr)(i v:Nat):TabMem G o (p.set i v) w (wr.setCell ⟨G+1+1,i,none⟩ (.int .u8 (v:Int))) :=
 ⟨h.r.far (p:=⟨G+1+1,i,none⟩) (by simp;omega) _,h.bo.far (p:=⟨G+1+1,i,none⟩) (by simp) _,h.bp.setNum i v,h.ol,by rw [List.length_set];exact h.pl,h.bel.setCell (by simp;omega) _⟩
theorem TabMem.setO{G:Nat}{o p:List Nat}{w wr:World}(h:TabMem G o p w wr)(i v:Nat):TabMem G (o.set i v) p w (wr.setCell ⟨G+1,i,none⟩ (.int .u8 (v:Int))) :=
 ⟨h.r.far (p:=⟨G+1,i,none⟩) (by simp) _,h.bo.setNum i v,h.bp.far (p:=⟨G+1,i,none⟩) (by simp) _,by rw [List.length_set];exact h.ol,h.pl,h.bel.setCell (by simp) _⟩
theorem TabMem.drew_{G:Nat}{o p:List Nat}{w wr:World}(h:TabMem G o p w wr):TabMem G o p w wr.drew:=⟨h.r,h.bo,h.bp,h.ol,h.pl,h.bel.drew⟩
def subs:List Nat:=(List.range 256).map Gf.sub
theorem subs_len:subs.length=256:=by simp [subs]
def pows(p:List Nat)(k:Nat):Prop:=∀j,j<k→p.getD j 0=Gf.ex j
def subd(o:List Nat)(k:Nat):Prop:=∀j,j<k→o.getD (Gf.ex j) 0=Gf.sub (Gf.ex j)
theorem pows_step{p:List Nat}{k:Nat}(h:pows p k)(hl:k<p.length):pows (p.set k (Gf.ex k)) (k+1):=by
 intro j hj
 by_cases e:k=j
 ·subst e;exact getD_set_eq hl
 ·rw [getD_set_ne e];exact h j (by omega)
theorem subd_step{o:List Nat}{k:Nat}(h:subd o k)(hl:Gf.ex k<o.length):subd (o.set (Gf.ex k) (Gf.sub (Gf.ex k))) (k+1):=by
 intro j hj
 by_cases e:Gf.ex k=Gf.ex j
 ·rw [e];exact getD_set_eq (by rw [←e];exact hl)
 ·rw [getD_set_ne e];exact h j (by
   have:j≠k:=by rintro rfl;exact e rfl
   omega)
theorem subd_all{o:List Nat}(h:subd o 255)(hl:o.length=256):o.set 0 (Gf.sub 0)=subs:=by
 apply List.ext_getElem?
 intro i
 by_cases hi:i<256
 ·have e1:(o.set 0 (Gf.sub 0)).getD i 0=Gf.sub i:=by
   by_cases h0:0=i
   ·subst h0;exact getD_set_eq (by omega)
   ·rw [getD_set_ne h0]
    have:=h (Gf.lg i) (Gf.lg_lt i hi)
    rw [Gf.ex_lg i hi (by omega)] at this;exact this
  have hi':i<(o.set 0 (Gf.sub 0)).length:=by rw [List.length_set];omega
  rw [List.getD_eq_getElem?_getD,List.getElem?_eq_getElem hi'] at e1
  rw [List.getElem?_eq_getElem hi']
  simp only [Option.getD_some] at e1
  rw [e1];unfold subs;rw [List.getElem?_map,List.getElem?_range hi];rfl
 ·rw [List.getElem?_eq_none (by rw [List.length_set];omega),List.getElem?_eq_none (by simp [subs];omega)]
theorem tw_lo(p:Nat)(hp:p<256)(h:¬ 255<2*p):bits .xor .u8 (2*(p:Int)) (p:Int)=((Gf.xt p ^^^ p:Nat):Int):=by
 have e:=Gf.xt_twice p hp
 rw [if_neg h,Nat.mod_eq_of_lt (by omega)] at e
 rw [show (2*(p:Int))=((2*p:Nat):Int) from by omega,u8_xor_nat _ _ (by omega) hp,e]
theorem tw_hi(p:Nat)(hp:p<256)(h:255<2*p):bits .xor .u8 (bits .xor .i64 (2*(p:Int)) 283%256) (p:Int)=((Gf.xt p ^^^ p:Nat):Int):=by
 have e:=Gf.xt_twice p hp
 rw [if_pos h] at e
 rw [show (2*(p:Int))=((2*p:Nat):Int) from by omega,show (283:Int)=((283:Nat):Int) from rfl,i64_xor_nat _ _ (by omega) (by omega)]
 rw [show (((2*p ^^^ 283:Nat):Int)%256)=(((2*p ^^^ 283)%256:Nat):Int) from by omega,u8_xor_nat _ _ (by omega) hp,e]
set_option maxRecDepth 100000 in
set_option maxHeartbeats 400000 in
theorem table_any(w:World):
 Calls Tryz.prog 290 #[] w fun e w'=>e=.returned (.agg (va .u8 subs))∧Below w.heap.size w w':=by
 have hzv:=zv30
 have hz0:(va .u8 z256)[0]?=some (.int .u8 0):=by rw [va_get (by rw [z256_len];omega)];rfl
 go_enter Tryz.func290,Tryz.ntmps290
 go_wp2
 have hm:TabMem w.heap.size z256 (z256.set 0 1) w (((w.alloc (Obj.cells (va .u8 z256) 465)).alloc (Obj.cells (va .u8 z256) 465)).alloc (Obj.cells ((va .u8 z256).setIfInBounds 0 (.int .u8 1)) 465)):=by
  have e:(va .u8 z256).setIfInBounds 0 (.int .u8 1)=va .u8 (z256.set 0 1):=va_set .u8 z256 0 1
  rw [e]
  refine ⟨((Blk.new w _ _).alloc _).alloc _,?_,?_,z256_len,by rw [List.length_set];exact z256_len,(((Below.refl _ _).alloc (Nat.le_refl _) _).alloc (by simp) _).alloc (by simp;omega) _⟩
  ·have:=(Blk.new (w.alloc (Obj.cells (va .u8 z256) 465)) 465 (va .u8 z256)).alloc (Obj.cells (va .u8 (z256.set 0 1)) 465)
   simpa using this
  ·have:=Blk.new ((w.alloc (Obj.cells (va .u8 z256) 465)).alloc (Obj.cells (va .u8 z256) 465)) 465 (va .u8 (z256.set 0 1))
   simpa using this
 have hp1:pows (z256.set 0 1) 1:=by
  intro j hj
  obtain rfl:j=0:=by omega
  rw [getD_set_eq (by rw [z256_len];omega),Gf.ex_zero]
 generalize hGG:w.heap.size=G at *
 generalize z256.set 0 1=P at hm hp1
 clear hzv hz0
 go_loopw [3,4] (fun s _ wr=>∃(k:Nat) (p:List Nat),1≤k∧k≤256∧s=.int .i64 (k:Int)∧pows p k∧TabMem G z256 p w wr) (fun s _ _=>256-(intOf s).toNat)
 case atStart=>exact ⟨1,P,by omega,by omega,rfl,hp1,hm⟩
 case round =>
  obtain ⟨k,p,hk1,hk,rfl,hp,hmem⟩:=hrel
  clear hm hp1 P
  by_cases hlt:k<256
  ·have hlt':(k:Int)<256:=by omega
   have hk1':1≤(k:Int):=by omega
   have hidx:((k:Int)-1).toNat=k-1:=by omega
   have hl:=hmem.pl
   have hc0:=hmem.bp.num (i:=k-1) (by omega)
   have hc1:=hmem.bp.num (i:=k) (by omega)
   have hf1:=hmem.bp.frozen k
   rw [hp (k-1) (by omega)] at hc0
   have hx:=Gf.ex_lt (k-1)
   generalize p.getD k 0=pk at *
   have hs:=Gf.ex_succ (k-1) (by omega)
   rw [show k-1+1=k from by omega] at hs
   have hs':=Lib.hid hs
   clear hs
   by_cases hbig:255<2*Gf.ex (k-1)
   ·have hbig':255<2*(Gf.ex (k-1):Int):=by omega
    go_wp2
    go_roundw
    case rel=>exact ⟨k+1,p.set k (Gf.ex k),by omega,by omega,by go_num,pows_step hp (by omega),by rw [tw_hi _ hx hbig,←hs'.out];exact hmem.setP k _⟩
    case measure=>simp [intOf];omega
   ·have hbig':2*(Gf.ex (k-1):Int)≤255:=by omega
    go_wp2
    go_roundw
    case rel=>exact ⟨k+1,p.set k (Gf.ex k),by omega,by omega,by go_num,pows_step hp (by omega),by rw [tw_lo _ hx hbig,←hs'.out];exact hmem.setP k _⟩
    case measure=>simp [intOf];omega
  ·have ek:(k:Int)=256:=by omega
   replace hp:pows p 256:=fun j hj=>hp j (by omega)
   go_wp2
   clear ek hk hk1 hlt
   go_loopw [5] (fun s wr=>∃(k:Nat) (o:List Nat),k≤255∧s=.int .i64 (k:Int)∧subd o k∧TabMem G o p w wr) (fun s _=>255-(intOf s).toNat)
   case atStart=>exact ⟨0,z256,by omega,rfl,fun j hj=>by omega,hmem⟩
   case round =>
    obtain ⟨k,o,hk,rfl,ho,hmem⟩:=hrel
    by_cases hlt:k<255
    ·have hlt':(k:Int)<255:=by omega
     have hl:=hmem.pl
     have hlo:=hmem.ol
     have hc0:=hmem.bp.num (i:=k) (by omega)
     have hc1:=hmem.bp.num (i:=255-k) (by omega)
     have hx:=Gf.ex_lt k
     have hc2:=hmem.bo.num (i:=Gf.ex k) (by omega)
     have hf2:=hmem.bo.frozen (Gf.ex k)
     rw [hp k (by omega)] at hc0
     rw [hp (255-k) (by omega),Gf.ex_inv k (by omega)] at hc1
     have hi:=Gf.inv_lt (Gf.ex k)
     have hidx:((255:Int)-(k:Int)).toNat=255-k:=by omega
     generalize o.getD (Gf.ex k) 0=ok at *
     have hs:=Lib.hid (Gf.sub_eq (Gf.ex k) hx)
     go_wp2
     have q1:(k:Int)<256:=by omega
     have q2:(255:Int)-(k:Int)<256:=by omega
     have q3:0≤(255:Int)-(k:Int):=by omega
     have q3':(k:Int)≤255:=by omega
     have q4:(Gf.ex k:Int)<256:=by omega
     have q5:IntKind.i64.wrap ((255:Int)-(k:Int))=(255:Int)-(k:Int):=IntWalk.i64_in _ (by omega)
     refine wp_region_still_tail 9 (by kernel_rfl) (by kernel_rfl) ?_
     simp only [List.take_succ_cons,List.take_zero,List.drop_succ_cons,List.drop_zero]
     change wpStill _ _ wr.drew _ _ _
     iterate 7 still_step
     still_call ((subst_any _ hi _).mono (fun e w' h=>⟨h.1,h.2.symm⟩))
     still_step
     refine wpStill_nil ?_
     change wpList _ _ _ _ _ wr.drew
     go_wp2
     go_roundw
     case rel=>exact ⟨k+1,o.set (Gf.ex k) (Gf.sub (Gf.ex k)),by omega,by go_num,subd_step ho (by omega),by rw [hs.out];first|exact (hmem.setO _ _).drew_|exact hmem.drew_.setO _ _⟩
     case measure=>simp [intOf];omega
    ·have ek:(k:Int)=255:=by omega
     obtain rfl:k=255:=by omega
     have hc0:=hmem.bo.num (i:=0) (by have:=hmem.ol;omega)
     have hf0:=hmem.bo.frozen 0
     have hall:=Lib.hid (subd_all ho hmem.ol)
     generalize o.getD 0 0=o0 at *
     go_wp2_with fail
     refine (subst_any 0 (by omega) _).mono ?_
     rintro e w3 ⟨rfl,rfl⟩
     have haff:Gf.aff 0=Gf.sub 0:=Gf.sub_eq 0 (by omega)
     have hm2:TabMem G subs p w (wr.setCell ⟨G+1,0,none⟩ (.int .u8 (Gf.aff 0:Nat))):=by rw [←hall.out,haff];exact hmem.setO 0 _
     have hm3:=Lib.hid hm2
     clear haff hm2 hall hmem
     go_wp2
     have hm2:=hm3.out
     generalize wr.setCell ⟨G+1,0,none⟩ (.int .u8 (Gf.aff 0:Nat))=w3 at *
     have hsz:(Tryz.prog.info? 465).map (·.size)=some (va .u8 subs).size:=by rw [va_size,subs_len];kernel_rfl
     refine wp_load_row 465 (.tmp 1) rfl (G+1) rfl 465 (va .u8 subs) (0,0) _ hm2.bo Tryz.underlying465 rfl hsz ?_
     clear hsz
     have hst:=run_storeBlk (P:=Tryz.prog) hm2.r .u8 subs (by rw [va_size,subs_len,z256_len])
     go_wp2
     have hsz:(Tryz.prog.info? 465).map (·.size)=some (va .u8 subs).size:=by rw [va_size,subs_len];kernel_rfl
     exact bodyPost_ret (results_cell_row rfl _ _ G 465 (va .u8 subs) (0,0) _ rfl (hm2.r.row _) Tryz.underlying465 rfl hsz) rfl ⟨rfl,by rw [hGG];exact below_setRow hm2.bel (Nat.le_refl _) _⟩
end Go.Proofs.YtjboelhcieepkaaGreatDoor
namespace Go.Proofs.YtjboelhcieepkaaGreatDoor
set_option maxRecDepth 16384
open Go.RowKit
theorem mul_to(a b c:Nat)(ha:a<256)(hb:b<256)(hc:Gf.gm a b=c)(w:World):
 Calls Tryz.prog 273 #[.int .u8 (a:Int),.int .u8 (b:Int)] w fun e w'=>e=.returned (.int .u8 (c:Int))∧Below w.heap.size w w':=by
 rw [←hc];exact mul_nat a b ha hb w
theorem rmul_to(a b c:Nat)(ha:a<256)(hb:b<256)(hc:Gf.gm a b=c)(w:World):
 Calls Tryz.prog 292 #[.int .u8 (a:Int),.int .u8 (b:Int)] w fun e w'=>e=.returned (.int .u8 (c:Int))∧Below w.heap.size w w':=by
 rw [←hc];exact rmul_any a b ha hb w
theorem power_to(a:Nat)(n:Int)(c:Nat)(ha:a<256)(hc:Gf.powZ a n=c)(w:World):
 Calls Tryz.prog 225 #[.int .u8 (a:Int),.int .i64 n] w fun e w'=>e=.returned (.int .u8 (c:Int))∧Below w.heap.size w w' :=
 power_any a n c (by omega) (by omega) hc w
theorem sub_to(a c:Nat)(ha:a<256)(hc:Gf.sub a=c)(w:World):
 Calls Tryz.prog 224 #[.int .u8 (a:Int)] w fun e w'=>e=.returned (.int .u8 (c:Int))∧Below w.heap.size w w' :=
 sub_any a c (by omega) (by omega) hc w
end Go.Proofs.YtjboelhcieepkaaGreatDoor
namespace Go.Proofs.YtjboelhcieepkaaGreatDoor.Ci
set_option maxRecDepth 16384
def upd(f:Nat→Nat)(b:List Nat)(k:Nat):List Nat:=(List.range b.length).map fun i=>if i<k then f i else b.getD i 0
theorem upd_len(f:Nat→Nat)(b:List Nat)(k:Nat):(upd f b k).length=b.length:=by simp [upd]
theorem upd_get(f:Nat→Nat)(b:List Nat)(k i:Nat)(hi:i<b.length):(upd f b k).getD i 0=if i<k then f i else b.getD i 0:=by
 simp [upd,List.getD_eq_getElem?_getD,hi]
theorem upd_zero(f:Nat→Nat)(b:List Nat):upd f b 0=b:=by
 apply List.ext_getElem
 ·simp [upd]
 ·intro i h1 h2
  simp [upd,List.getD_eq_getElem?_getD,h2]
theorem upd_set(f:Nat→Nat)(b:List Nat)(k:Nat):(upd f b k).set k (f k)=upd f b (k+1):=by
 apply List.ext_getElem
 ·simp [upd]
 ·intro i h1 h2
  have hi:i<b.length:=by simpa [upd] using h2
  rw [List.getElem_set]
  by_cases e:k=i
  ·subst e
   simp [upd]
  ·rw [if_neg e]
   simp only [upd,List.getElem_map,List.getElem_range]
   by_cases h:i<k
   ·rw [if_pos h,if_pos (by omega)]
   ·rw [if_neg h,if_neg (by omega)]
theorem upd_all(f:Nat→Nat)(b:List Nat)(k:Nat)(hk:b.length≤k):upd f b k=(List.range b.length).map f:=by
 apply List.map_congr_left
 intro i hi
 rw [if_pos (by have:=List.mem_range.1 hi;omega)]
def addK(b key:List Nat):List Nat:=(List.range 16).map fun i=>b.getD i 0 ^^^ key.getD i 0
def each(s:Nat→Nat)(b:List Nat):List Nat:=(List.range 16).map fun i=>s (b.getD i 0)
def rot(p:Nat)(b:List Nat):List Nat:=(List.range 16).map fun i=>b.getD (4*((i / 4+p*(i%4))%4)+i%4) 0
def mixS(f b:List Nat)(c r:Nat):Nat→Nat
 |0=>0
 |j+1=>mixS f b c r j ^^^ Gf.gm (f.getD j 0) (b.getD (4*c+(r+j)%4) 0)
def mix(f b:List Nat):List Nat:=(List.range 16).map fun i=>mixS f b (i / 4) (i%4) 4
def Byt(l:List Nat):Prop:=∀x∈l,x<256
theorem Byt.get{l:List Nat}(h:Byt l)(i:Nat):l.getD i 0<256:=by
 rw [List.getD_eq_getElem?_getD]
 rcases Nat.lt_or_ge i l.length with hi|hi
 ·rw [List.getElem?_eq_getElem hi];exact h _ (List.getElem_mem hi)
 ·rw [List.getElem?_eq_none hi];simp
theorem byt_map{f:Nat→Nat}{n:Nat}(h:∀i,i<n→f i<256):Byt ((List.range n).map f):=by
 intro x hx
 obtain ⟨i,hi,rfl⟩:=List.mem_map.1 hx
 exact h i (List.mem_range.1 hi)
theorem addK_byt{b k:List Nat}(hb:Byt b)(hk:Byt k):Byt (addK b k):=byt_map fun i _=>Nat.xor_lt_two_pow (n:=8) (hb.get i) (hk.get i)
theorem rot_byt{p:Nat}{b:List Nat}(hb:Byt b):Byt (rot p b):=byt_map fun _i _=>hb.get _
theorem addK_len(b k:List Nat):(addK b k).length=16:=by simp [addK]
theorem each_len(s:Nat→Nat)(b:List Nat):(each s b).length=16:=by simp [each]
theorem rot_len(p:Nat)(b:List Nat):(rot p b).length=16:=by simp [rot]
theorem mix_len(f b:List Nat):(mix f b).length=16:=by simp [mix]
theorem mixS_lt(f b:List Nat)(hf:Byt f)(hb:Byt b)(c r:Nat):∀j,mixS f b c r j<256
 |0=>by simp [mixS]
 |j+1=>by
  unfold mixS
  exact Nat.xor_lt_two_pow (n:=8) (mixS_lt f b hf hb c r j) (Gf.gm_lt _ _ (hf.get j))
theorem mix_byt{f b:List Nat}(hf:Byt f)(hb:Byt b):Byt (mix f b):=byt_map fun _i _=>mixS_lt f b hf hb _ _ 4
end Go.Proofs.YtjboelhcieepkaaGreatDoor.Ci
namespace Go.Proofs.YtjboelhcieepkaaGreatDoor
set_option maxRecDepth 16384
open Go.RowKit
structure StMem(S:Nat)(b:List Nat)(w wr:World):Prop where
 s:Blk wr S 382 (va .u8 b)
 bel:Below S w wr
set_option maxHeartbeats 800000 in
theorem add_any(S:Nat)(b key:List Nat)(hbl:b.length=16)(hkl:key.length=16)(hb:Ci.Byt b)(hk:Ci.Byt key)(w:World)(hs:Blk w S 382 (va .u8 b)):
 Calls Tryz.prog 226 #[.pointer (some ⟨S,0,none⟩),.agg (va .u8 key)] w fun e w'=>e=.returned (.tuple #[])∧StMem S (Ci.addK b key) w w':=by
 have hlt:=hs.lt
 have hm:StMem S (Ci.upd (fun i=>b.getD i 0 ^^^ key.getD i 0) b 0) w (w.alloc (.cells (va .u8 key) 26)):=by
  rw [Ci.upd_zero];exact ⟨hs.alloc _,(Below.refl _ _).alloc (by omega) _⟩
 have hkk:Blk (w.alloc (.cells (va .u8 key) 26)) w.heap.size 26 (va .u8 key):=Blk.new _ _ _
 have hmm:=Lib.hid hm
 have hkh:=Lib.hid hkk
 clear hs hm hkk
 go_enter Tryz.func226,Tryz.ntmps226
 go_wp2
 generalize w.alloc (.cells (va .u8 key) 26)=w1 at *
 go_loopw [5] (fun s wr=>∃k:Nat,k≤16∧s=.int .i64 (k:Int)∧StMem S (Ci.upd (fun i=>b.getD i 0 ^^^ key.getD i 0) b k) w wr∧Blk wr w.heap.size 26 (va .u8 key)) (fun s _=>16-(intOf s).toNat)
 case atStart=>exact ⟨0,by omega,rfl,hmm.out,hkh.out⟩
 case round =>
  clear hmm hkh
  obtain ⟨k,hk16,rfl,hmem,hkey⟩:=hrel
  by_cases hlt:k<16
  ·have hltI:(k:Int)<16:=by omega
   have hc:=hmem.s.num (i:=k) (by rw [Ci.upd_len];omega)
   have hf:=hmem.s.frozen k
   rw [Ci.upd_get _ _ _ _ (by omega),if_neg (by omega)] at hc
   have hc2:=hkey.num (i:=k) (by omega)
   have hx:=hb.get k
   have hy:=hk.get k
   have hset:=Lib.hid (Ci.upd_set (fun i=>b.getD i 0 ^^^ key.getD i 0) b k)
   have hxy:=Lib.hid (rfl:b.getD k 0 ^^^ key.getD k 0=b.getD k 0 ^^^ key.getD k 0)
   have hmh:=Lib.hid hmem
   have hkh:=Lib.hid hkey
   clear hmem hkey
   obtain ⟨x,hxe⟩:∃x,b.getD k 0=x:=⟨_,rfl⟩
   obtain ⟨y,hye⟩:∃y,key.getD k 0=y:=⟨_,rfl⟩
   rw [hxe] at hc hx
   rw [hye] at hc2 hy
   have hxe':=Lib.hid hxe
   have hye':=Lib.hid hye
   have hxr:bits BinOp.xor IntKind.u8 (x:Int) (y:Int)=((x ^^^ y:Nat):Int):=u8_xor_nat x y hx hy
   clear hxe hye hxy
   go_wp2
   refine wp_region_still_tail 13 (by kernel_rfl) (by kernel_rfl) ?_
   simp only [List.take_succ_cons,List.take_zero,List.drop_succ_cons,List.drop_zero]
   change wpStill _ _ wr.drew _ _ _
   iterate 13 still_step
   refine wpStill_nil ?_
   change wpList _ _ _ _ _ wr.drew
   go_wp2
   go_roundw
   case rel =>
    refine ⟨k+1,by omega,by go_num,⟨?_,(below_drewN hmh.out.bel 1).setCell (Nat.le_refl _) _⟩,?_⟩
    ·rw [←hset.out,hxe'.out,hye'.out]
     have:=hmh.out.s.drew.setNum k (x ^^^ y)
     first|exact this|simpa using this
    ·exact hkh.out.drew.far (by simp;omega) _
   case measure=>simp [intOf];omega
  ·obtain rfl:k=16:=by omega
   go_wp2
   go_end0
   refine ⟨rfl,?_,hmem.bel⟩
   have:=hmem.s
   rw [Ci.upd_all _ _ _ (by omega),hbl] at this
   exact this
end Go.Proofs.YtjboelhcieepkaaGreatDoor
namespace Go.Proofs.YtjboelhcieepkaaGreatDoor
set_option maxRecDepth 16384
open Go.RowKit
set_option maxHeartbeats 800000 in
theorem each_sub(S:Nat)(b:List Nat)(hbl:b.length=16)(hb:Ci.Byt b)(w:World)(hs:Blk w S 382 (va .u8 b)):
 Calls Tryz.prog 227 #[.pointer (some ⟨S,0,none⟩),.func (.func 224) #[] #[]] w fun e w'=>e=.returned (.tuple #[])∧StMem S (Ci.each Gf.sub b) w w':=by
 have hlt0:=hs.lt
 have hm:StMem S (Ci.upd (fun i=>Gf.sub (b.getD i 0)) b 0) w w:=by
  rw [Ci.upd_zero];exact ⟨hs,Below.refl _ _⟩
 have hmm:=Lib.hid hm
 have hsz0:(Tryz.prog.info? 26).map (·.size)=some (va .u8 b).size:=by rw [va_size,hbl];kernel_rfl
 have hsz:=Lib.hid hsz0
 obtain ⟨ie,hie,_,his,_⟩:=info_parts byte_info
 have hix:∀(k:Nat) (W:World),k<16→(Instr.index 26 (.agg (va .u8 b)) (.int .i64 (k:Int))).run Tryz.prog W=.ok (.int .u8 ((b.getD k 0:Nat):Int)) W:=fun k W hk=>run_index_num Tryz.underlying26 Tryz.underlying5 hie his hbl hk W
 have hixh:=Lib.hid hix
 have hsh:=Lib.hid hs
 clear hm hsz0 hix hs
 go_enter Tryz.func227,Tryz.ntmps227
 go_wp2_with (refine wpList_load_row rfl 26 (.tmp 8) rfl S rfl 382 (va .u8 b) (0,0) _ hsh.out Tryz.underlying26 rfl hsz.out ?_)
 go_loopw [10] (fun s wr=>∃k:Nat,k≤16∧s=.int .i64 (k:Int)∧StMem S (Ci.upd (fun i=>Gf.sub (b.getD i 0)) b k) w wr) (fun s _=>16-(intOf s).toNat)
 case atStart=>exact ⟨0,by omega,rfl,hmm.out⟩
 case round =>
  clear hmm
  obtain ⟨k,hk16,rfl,hmem⟩:=hrel
  by_cases hlt:k<16
  ·have hltI:(k:Int)<16:=by omega
   have hrun:=fun W=>hixh.out k W hlt
   have hx:=hb.get k
   have hset:=Lib.hid (Ci.upd_set (fun i=>Gf.sub (b.getD i 0)) b k)
   have hmh:=Lib.hid hmem
   obtain ⟨x,hxe⟩:∃x,b.getD k 0=x:=⟨_,rfl⟩
   simp only [hxe] at hrun
   rw [hxe] at hx
   have hxe':=Lib.hid hxe
   clear hxe hmem
   go_wp2
   go_region_with (first
    |(go_at_call 224
      refine (sub_to x (Gf.sub x) hx rfl _).mono ?_
      rintro e w1 ⟨rfl,b1⟩
      have hS1:=Lib.hid (hmh.out.s.drew.below b1 hmh.out.s.lt)
      have hB1:=Lib.hid ((below_drewN hmh.out.bel 1).trans (b1.mono (Nat.le_of_lt hmh.out.s.lt)))
      have c1:=hS1.out.num (i:=k) (by rw [Ci.upd_len];omega)
      have f1:=hS1.out.frozen k
      clear b1))
   all_goals
    go_wp2
    go_roundw
   all_goals first
    |(refine ⟨k+1,by omega,by go_num,⟨?_,hB1.out.setCell (Nat.le_refl _) _⟩⟩
      rw [←hset.out,hxe'.out]
      exact hS1.out.setNum k (Gf.sub x))
    |(simp [intOf];omega)
  ·obtain rfl:k=16:=by omega
   go_wp2
   go_end0
   refine ⟨rfl,?_,hmem.bel⟩
   have:=hmem.s
   rw [Ci.upd_all _ _ _ (by omega),hbl] at this
   exact this
end Go.Proofs.YtjboelhcieepkaaGreatDoor
namespace Go.Proofs.YtjboelhcieepkaaGreatDoor
set_option maxRecDepth 16384
open Go.RowKit
def z16:List Nat:=List.replicate 16 0
theorem z16_len:z16.length=16:=List.length_replicate ..
theorem zero16(w:World):(zeroValue 26).run Tryz.prog w=.ok (.agg (va .u8 z16)) w:=by kernel_rfl
set_option maxRecDepth 8000 in
set_option maxHeartbeats 800000 in
theorem rotate1_any(S:Nat)(b:List Nat)(hbl:b.length=16)(_hb:Ci.Byt b)(w:World)(hs:Blk w S 382 (va .u8 b)):
 Calls Tryz.prog 228 #[.pointer (some ⟨S,0,none⟩),.int .i64 1] w fun e w'=>e=.returned (.tuple #[])∧StMem S (Ci.rot 1 b) w w':=by
 have hlt0:=hs.lt
 have hm:StMem S (Ci.upd (fun i=>b.getD (4*((i / 4+1*(i%4))%4)+i%4) 0) b 0) w (w.alloc (.cells (va .u8 b) 26)):=by
  rw [Ci.upd_zero];exact ⟨hs.alloc _,(Below.refl _ _).alloc (by omega) _⟩
 have hkk:Blk (w.alloc (.cells (va .u8 b) 26)) w.heap.size 26 (va .u8 b):=Blk.new _ _ _
 have hmm:=Lib.hid hm
 have hkh:=Lib.hid hkk
 have hsz0:(Tryz.prog.info? 26).map (·.size)=some (va .u8 b).size:=by rw [va_size,hbl];kernel_rfl
 have hsz:=Lib.hid hsz0
 have hvs:(va .u8 b).size=16:=by rw [va_size,hbl]
 have hzv:=zero16
 have hst:=run_storeNew (P:=Tryz.prog) w 26 (va .u8 z16) .u8 b (by rw [va_size,hbl,z16_len])
 have hsh:=Lib.hid hs
 clear hm hkk hsz0 hs
 go_enter Tryz.func228,Tryz.ntmps228
 go_wp2_with (refine wpList_load_row rfl 26 (.tmp 9) rfl S rfl 382 (va .u8 b) (0,0) _ hsh.out Tryz.underlying26 rfl hsz.out ?_)
 clear hst hvs hzv
 generalize w.alloc (.cells (va .u8 b) 26)=w1 at *
 go_loopw [11] (fun s wr=>∃c:Nat,c≤4∧s=.int .i64 (c:Int)∧StMem S (Ci.upd (fun i=>b.getD (4*((i / 4+1*(i%4))%4)+i%4) 0) b (4*c)) w wr∧Blk wr w.heap.size 26 (va .u8 b)) (fun s _=>4-(intOf s).toNat)
 case atStart=>exact ⟨0,by omega,rfl,hmm.out,hkh.out⟩
 case round =>
  clear hmm hkh
  obtain ⟨c,hc4,rfl,hmem,hold⟩:=hrel
  by_cases hlc:c<4
  ·have hlcI:(c:Int)<4:=by omega
   have hmm:=Lib.hid hmem
   have hkh:=Lib.hid hold
   clear hmem hold
   go_wp2
   go_loopw [14] (fun s wr=>∃r:Nat,r≤4∧s=.int .i64 (r:Int)∧StMem S (Ci.upd (fun i=>b.getD (4*((i / 4+1*(i%4))%4)+i%4) 0) b (4*c+r)) w wr∧Blk wr w.heap.size 26 (va .u8 b)) (fun s _=>4-(intOf s).toNat)
   case atStart=>exact ⟨0,by omega,rfl,hmm.out,hkh.out⟩
   case round =>
    clear hmm hkh
    obtain ⟨r,hr4,rfl,hmem,hold⟩:=hrel
    by_cases hlr:r<4
    ·have hlrI:(r:Int)<4:=by omega
     obtain ⟨q,hq⟩:∃q,(c+r)%4=q:=⟨_,rfl⟩
     obtain ⟨j,hj⟩:∃j,4*q+r=j:=⟨_,rfl⟩
     obtain ⟨i,hi⟩:∃i,4*c+r=i:=⟨_,rfl⟩
     have hq4:q<4:=by omega
     have hj16:j<16:=by omega
     have hi16:i<16:=by omega
     have hqe:((c:Int)+(r:Int))%4=(q:Int):=by omega
     have hqt:((c:Int)+(r:Int)).tmod 4=(q:Int):=by rw [Int.tmod_eq_emod_of_nonneg (by omega)];exact hqe
     have hjI:4*(q:Int)+(r:Int)=(j:Int):=by omega
     have hiI:4*(c:Int)+(r:Int)=(i:Int):=by omega
     have hj16I:(j:Int)<16:=by omega
     have hi16I:(i:Int)<16:=by omega
     have w1:IntKind.i64.wrap ((r:Int))=(r:Int):=IntWalk.i64_in _ (by omega)
     have w2:IntKind.i64.wrap ((c:Int)+(r:Int))=(c:Int)+(r:Int):=IntWalk.i64_in _ (by omega)
     have w4:IntKind.i64.wrap (4*(q:Int))=4*(q:Int):=IntWalk.i64_in _ (by omega)
     have w5:IntKind.i64.wrap (j:Int)=(j:Int):=IntWalk.i64_in _ (by omega)
     have w6:IntKind.i64.wrap (4*(c:Int))=4*(c:Int):=IntWalk.i64_in _ (by omega)
     have w7:IntKind.i64.wrap (i:Int)=(i:Int):=IntWalk.i64_in _ (by omega)
     rw [hi] at hmem
     have hfi:b.getD (4*((i / 4+1*(i%4))%4)+i%4) 0=b.getD j 0:=by
      have e1:i / 4=c:=by omega
      have e2:i%4=r:=by omega
      rw [e1,e2]
      have e3:(c+1*r)%4=q:=by omega
      rw [e3,hj]
     have hc0:=hmem.s.num (i:=i) (by rw [Ci.upd_len];omega)
     have hf:=hmem.s.frozen i
     have hc2:=hold.num (i:=j) (by omega)
     have hset:=Ci.upd_set (fun i=>b.getD (4*((i / 4+1*(i%4))%4)+i%4) 0) b i
     rw [hfi] at hset
     obtain ⟨x,hxe⟩:∃x,b.getD j 0=x:=⟨_,rfl⟩
     rw [hxe] at hc2 hset
     have hset':=Lib.hid hset
     have hih:=Lib.hid hi
     have hmh:=Lib.hid hmem
     have hkh:=Lib.hid hold
     generalize (Ci.upd (fun i=>b.getD (4*((i / 4+1*(i%4))%4)+i%4) 0) b i).getD i 0=y0 at *
     clear hmem hold hset hxe hi hj hq hfi
     go_wp2
     refine wp_region_still_tail 19 (by kernel_rfl) (by kernel_rfl) ?_
     simp only [List.take_succ_cons,List.take_zero,List.drop_succ_cons,List.drop_zero]
     change wpStill _ _ wr.drew _ _ _
     iterate 19 still_step
     refine wpStill_nil ?_
     change wpList _ _ _ _ _ wr.drew
     go_wp2
     go_roundw
     case rel =>
      refine ⟨r+1,by omega,by go_num,⟨?_,(below_drewN hmh.out.bel 1).setCell (Nat.le_refl _) _⟩,hkh.out.drew.far (by simp;omega) _⟩
      have e4:4*c+(r+1)=i+1:=by rw [←hih.out];omega
      rw [e4,←hset'.out]
      exact hmh.out.s.drew.setNum i x
     case measure=>simp [intOf];omega
    ·obtain rfl:r=4:=by omega
     have hmm:=Lib.hid hmem
     have hkh:=Lib.hid hold
     clear hmem hold
     go_wp2
     go_roundw
     case rel=>exact ⟨c+1,by omega,by go_num,by rw [show 4*(c+1)=4*c+4 from by omega];exact hmm.out,hkh.out⟩
     case measure=>simp [intOf];omega
  ·obtain rfl:c=4:=by omega
   go_wp2
   go_end0
   refine ⟨rfl,?_,hmem.bel⟩
   have:=hmem.s
   rw [Ci.upd_all _ _ _ (by omega),hbl] at this
   exact this
end Go.Proofs.YtjboelhcieepkaaGreatDoor
namespace Go.Proofs.YtjboelhcieepkaaGreatDoor
set_option maxRecDepth 16384
open Go.RowKit
set_option maxHeartbeats 1600000 in
theorem mix_any(S:Nat)(f b:List Nat)(hfl:f.length=4)(hbl:b.length=16)(hfb:Ci.Byt f)(hb:Ci.Byt b)(w:World)(hs:Blk w S 382 (va .u8 b)):
 Calls Tryz.prog 229 #[.pointer (some ⟨S,0,none⟩),.agg (va .u8 f)] w fun e w'=>e=.returned (.tuple #[])∧StMem S (Ci.mix f b) w w':=by
 have hlt0:=hs.lt
 have hm:StMem S (Ci.upd (fun i=>Ci.mixS f b (i / 4) (i%4) 4) b 0) w ((w.alloc (.cells (va .u8 f) 378)).alloc (.cells (va .u8 b) 26)):=by
  rw [Ci.upd_zero];exact ⟨(hs.alloc _).alloc _,((Below.refl _ _).alloc (by omega) _).alloc (by simp;omega) _⟩
 have hkk:Blk ((w.alloc (.cells (va .u8 f) 378)).alloc (.cells (va .u8 b) 26)) (w.heap.size+1) 26 (va .u8 b):=by
  have:=Blk.new (w.alloc (.cells (va .u8 f) 378)) 26 (va .u8 b)
  simpa using this
 have hff:Blk ((w.alloc (.cells (va .u8 f) 378)).alloc (.cells (va .u8 b) 26)) w.heap.size 378 (va .u8 f):=(Blk.new _ _ _).alloc _
 have hmm:=Lib.hid hm
 have hkh:=Lib.hid hkk
 have hfh:=Lib.hid hff
 have hsz0:(Tryz.prog.info? 26).map (·.size)=some (va .u8 b).size:=by rw [va_size,hbl];kernel_rfl
 have hsz:=Lib.hid hsz0
 have hsz40:(Tryz.prog.info? 378).map (·.size)=some (va .u8 f).size:=by rw [va_size,hfl];kernel_rfl
 have hsz4:=Lib.hid hsz40
 have hvs:(va .u8 b).size=16:=by rw [va_size,hbl]
 have hzv:=zero16
 have hst:=run_storeNew (P:=Tryz.prog) (w.alloc (.cells (va .u8 f) 378)) 26 (va .u8 z16) .u8 b (by rw [va_size,hbl,z16_len])
 rw [show (w.alloc (.cells (va .u8 f) 378)).heap.size=w.heap.size+1 from by simp] at hst
 have hsh:=Lib.hid (hs.alloc (.cells (va .u8 f) 378))
 obtain ⟨ie,hie,_,his,_⟩:=info_parts byte_info
 have hix:∀(k:Nat) (W:World),k<4→(Instr.index 378 (.agg (va .u8 f)) (.int .i64 (k:Int))).run Tryz.prog W=.ok (.int .u8 ((f.getD k 0:Nat):Int)) W:=fun k W hk=>run_index_num Tryz.underlying378 Tryz.underlying5 hie his hfl hk W
 have hixh:=Lib.hid hix
 clear hm hkk hff hsz0 hsz40 hs hix
 go_enter Tryz.func229,Tryz.ntmps229
 go_wp2_with (refine wpList_load_row rfl 26 (.tmp 12) rfl S rfl 382 (va .u8 b) (0,0) _ hsh.out Tryz.underlying26 rfl hsz.out ?_)
 clear hst hvs hzv
 generalize (w.alloc (.cells (va .u8 f) 378)).alloc (.cells (va .u8 b) 26)=w1 at *
 go_loopw [14] (fun s wr=>∃c:Nat,c≤4∧s=.int .i64 (c:Int)∧StMem S (Ci.upd (fun i=>Ci.mixS f b (i / 4) (i%4) 4) b (4*c)) w wr∧Blk wr (w.heap.size+1) 26 (va .u8 b)∧Blk wr w.heap.size 378 (va .u8 f)) (fun s _=>4-(intOf s).toNat)
 case atStart=>exact ⟨0,by omega,rfl,hmm.out,hkh.out,hfh.out⟩
 case round =>
  clear hmm hkh hfh hsh
  obtain ⟨c,hc4,rfl,hmem,hold,hfac⟩:=hrel
  by_cases hlc:c<4
  ·have hlcI:(c:Int)<4:=by omega
   have hmm:=Lib.hid hmem
   have hkh:=Lib.hid hold
   have hfh:=Lib.hid hfac
   clear hmem hold hfac
   go_wp2
   go_loopw [17] (fun s wr=>∃r:Nat,r≤4∧s=.int .i64 (r:Int)∧StMem S (Ci.upd (fun i=>Ci.mixS f b (i / 4) (i%4) 4) b (4*c+r)) w wr∧Blk wr (w.heap.size+1) 26 (va .u8 b)∧Blk wr w.heap.size 378 (va .u8 f)) (fun s _=>4-(intOf s).toNat)
   case atStart=>exact ⟨0,by omega,rfl,hmm.out,hkh.out,hfh.out⟩
   case round =>
    clear hmm hkh hfh
    obtain ⟨r,hr4,rfl,hmem,hold,hfac⟩:=hrel
    by_cases hlr:r<4
    ·have hlrI:(r:Int)<4:=by omega
     have hmm:=Lib.hid hmem
     have hkh:=Lib.hid hold
     have hfh:=Lib.hid hfac
     clear hmem hold hfac
     go_wp2_with (refine wpList_load_row rfl 378 (.tmp 3) rfl w.heap.size rfl 378 (va .u8 f) (0,0) _ hfh.out Tryz.underlying378 rfl hsz4.out ?_)
     go_loopw [7,21] (fun v s wx=>∃j:Nat,j≤4∧s=.int .i64 (j:Int)∧v=.int .u8 (Ci.mixS f b c r j:Nat)∧StMem S (Ci.upd (fun i=>Ci.mixS f b (i / 4) (i%4) 4) b (4*c+r)) w wx∧Blk wx (w.heap.size+1) 26 (va .u8 b)∧Blk wx w.heap.size 378 (va .u8 f)) (fun _ s _=>4-(intOf s).toNat)
     case atStart=>exact ⟨0,by omega,rfl,rfl,hmm.out,hkh.out,hfh.out⟩
     case round =>
      clear hmm hkh hfh
      obtain ⟨j,hj4,rfl,rfl,hmem,hold,hfac⟩:=hrel
      by_cases hlj:j<4
      ·have hljI:(j:Int)<4:=by omega
       have hrun:=fun W=>hixh.out j W hlj
       obtain ⟨q,hq⟩:∃q,(r+j)%4=q:=⟨_,rfl⟩
       obtain ⟨i,hi⟩:∃i,4*c+q=i:=⟨_,rfl⟩
       have hq4:q<4:=by omega
       have hi16:i<16:=by omega
       have hqt:((r:Int)+(j:Int)).tmod 4=(q:Int):=by rw [Int.tmod_eq_emod_of_nonneg (by omega)];omega
       have hqe:((r:Int)+(j:Int))%4=(q:Int):=by omega
       have hiI:4*(c:Int)+(q:Int)=(i:Int):=by omega
       have hi16I:(i:Int)<16:=by omega
       have hc2:=hold.num (i:=i) (by omega)
       have hfx:=hfb.get j
       have hbx:=hb.get i
       have hmx:=Ci.mixS_lt f b hfb hb c r j
       have hstep:Ci.mixS f b c r (j+1)=Ci.mixS f b c r j ^^^ Gf.gm (f.getD j 0) (b.getD i 0):=by
        show Ci.mixS f b c r j ^^^ Gf.gm (f.getD j 0) (b.getD (4*c+(r+j)%4) 0)=_
        rw [hq,hi]
       obtain ⟨x,hxe⟩:∃x,f.getD j 0=x:=⟨_,rfl⟩
       obtain ⟨y,hye⟩:∃y,b.getD i 0=y:=⟨_,rfl⟩
       simp only [hxe] at hrun
       rw [hxe] at hfx hstep
       rw [hye] at hbx hc2 hstep
       obtain ⟨z,hze⟩:∃z,Gf.gm x y=z:=⟨_,rfl⟩
       have hz8:z<256:=by rw [←hze];exact Gf.gm_lt _ _ hfx
       rw [hze] at hstep
       have hxor:bits BinOp.xor IntKind.u8 ((Ci.mixS f b c r j:Nat):Int) (z:Int)=((Ci.mixS f b c r (j+1):Nat):Int):=by rw [hstep];exact u8_xor_nat _ _ hmx hz8
       have hxor':=Lib.hid hxor
       generalize Ci.mixS f b c r j=m0 at *
       obtain ⟨m1,hm1⟩:∃m1,Ci.mixS f b c r (j+1)=m1:=⟨_,rfl⟩
       rw [hm1] at hxor
       have hm1':=Lib.hid hm1
       clear hm1
       have hze':=Lib.hid hze
       have hmm:=Lib.hid hmem
       have hkh:=Lib.hid hold
       have hfh:=Lib.hid hfac
       clear hmem hold hfac hxe hye hq hi hstep hze hxor'
       go_wp2_with fail
       refine (mul_to x y z hfx hbx hze'.out _).mono ?_
       rintro e w2 ⟨rfl,b2⟩
       have hmm2:=Lib.hid (StMem.mk (S:=S) (w:=w) (hmm.out.s.below b2 hmm.out.s.lt) (hmm.out.bel.trans (b2.mono (Nat.le_of_lt hmm.out.s.lt))))
       have hkh2:=Lib.hid (hkh.out.below b2 hkh.out.lt)
       have hfh2:=Lib.hid (hfh.out.below b2 hfh.out.lt)
       clear hmm hkh hfh b2 hc2 hrun
       go_wp2
       go_roundw
       case rel=>exact ⟨j+1,by omega,by go_num,by rw [hm1'.out],hmm2.out,hkh2.out,hfh2.out⟩
       case measure=>simp [intOf];omega
      ·obtain rfl:j=4:=by omega
       obtain ⟨i,hi⟩:∃i,4*c+r=i:=⟨_,rfl⟩
       have hi16:i<16:=by omega
       have hiI:4*(c:Int)+(r:Int)=(i:Int):=by omega
       have hi16I:(i:Int)<16:=by omega
       have hfi:Ci.mixS f b (i / 4) (i%4) 4=Ci.mixS f b c r 4:=by
        rw [show i / 4=c from by omega,show i%4=r from by omega]
       have hset:=Ci.upd_set (fun i=>Ci.mixS f b (i / 4) (i%4) 4) b i
       simp only [hfi] at hset
       rw [hi] at hmem
       have hc0:=hmem.s.num (i:=i) (by rw [Ci.upd_len];omega)
       have hf0:=hmem.s.frozen i
       generalize (Ci.upd (fun i=>Ci.mixS f b (i / 4) (i%4) 4) b i).getD i 0=y0 at *
       generalize Ci.mixS f b c r 4=m4 at *
       have hset':=Lib.hid hset
       have hih:=Lib.hid hi
       have hmm:=Lib.hid hmem
       have hkh:=Lib.hid hold
       have hfh:=Lib.hid hfac
       clear hmem hold hfac hset hi hfi
       go_wp2
       go_roundw
       case rel =>
        refine ⟨r+1,by omega,by go_num,⟨?_,hmm.out.bel.setCell (Nat.le_refl _) _⟩,hkh.out.far (by simp;omega) _,hfh.out.far (by simp;omega) _⟩
        have e4:4*c+(r+1)=i+1:=by rw [←hih.out];omega
        rw [e4,←hset'.out]
        exact hmm.out.s.setNum i m4
       case measure=>simp [intOf];omega
    ·obtain rfl:r=4:=by omega
     have hmm:=Lib.hid hmem
     have hkh:=Lib.hid hold
     have hfh:=Lib.hid hfac
     clear hmem hold hfac
     go_wp2
     go_roundw
     case rel=>exact ⟨c+1,by omega,by go_num,by rw [show 4*(c+1)=4*c+4 from by omega];exact hmm.out,hkh.out,hfh.out⟩
     case measure=>simp [intOf];omega
  ·obtain rfl:c=4:=by omega
   go_wp2
   go_end0
   refine ⟨rfl,?_,hmem.bel⟩
   have:=hmem.s
   rw [Ci.upd_all _ _ _ (by omega),hbl] at this
   exact this
end Go.Proofs.YtjboelhcieepkaaGreatDoor
namespace Go.Proofs.YtjboelhcieepkaaGreatDoor
set_option maxRecDepth 16384
open Go.RowKit
namespace Ci
def ks(L:List Nat)(k:Nat):List Nat:=(L.drop (k*16)).take 16
def encS(L b:List Nat):Nat→List Nat
 |0=>addK b (ks L 0)
 |k+1=>addK (if k+1<10 then mix [2,3,1,1] (rot 1 (each Gf.sub (encS L b k))) else rot 1 (each Gf.sub (encS L b k))) (ks L (k+1))
def enc(L b:List Nat):List Nat:=encS L b 10
theorem ks_len{L:List Nat}(hL:L.length=176)(k:Nat)(hk:k≤10):(ks L k).length=16:=by simp [ks];omega
theorem ks_byt{L:List Nat}(hL:Byt L)(k:Nat):Byt (ks L k):=fun x hx=>hL x (List.mem_of_mem_drop (List.mem_of_mem_take hx))
theorem each_byt{s:Nat→Nat}(hs:∀a,s a<256)(b:List Nat):Byt (each s b):=byt_map fun _ _=>hs _
theorem fac_byt:Byt [2,3,1,1]:=by intro x hx;simp at hx;omega
theorem encS_len(L b:List Nat):∀k,(encS L b k).length=16
 |0=>addK_len _ _
 |_+1=>addK_len _ _
theorem encS_byt{L b:List Nat}(hL:Byt L)(hb:Byt b):∀k,Byt (encS L b k)
 |0=>addK_byt hb (ks_byt hL 0)
 |k+1=>by
  refine addK_byt ?_ (ks_byt hL _)
  have h1:Byt (rot 1 (each Gf.sub (encS L b k))):=rot_byt (each_byt Gf.sub_lt _)
  split
  ·exact mix_byt fac_byt h1
  ·exact h1
end Ci
theorem list16{l:List Nat}(h:l.length=16):∃a0 a1 a2 a3 a4 a5 a6 a7 a8 a9 a10 a11 a12 a13 a14 a15,l=[a0,a1,a2,a3,a4,a5,a6,a7,a8,a9,a10,a11,a12,a13,a14,a15] :=
 match l,h with
 |[a0,a1,a2,a3,a4,a5,a6,a7,a8,a9,a10,a11,a12,a13,a14,a15],_=>⟨a0,a1,a2,a3,a4,a5,a6,a7,a8,a9,a10,a11,a12,a13,a14,a15,rfl⟩
theorem built_state{b:List Nat}(h:b.length=16):Tryz.prog.built 382 [(0,.agg (va .u8 b))]=some (va .u8 b):=by
 obtain ⟨a0,a1,a2,a3,a4,a5,a6,a7,a8,a9,a10,a11,a12,a13,a14,a15,rfl⟩:=list16 h
 kernel_rfl
theorem zeroState(w:World):(zeroValue 382).run Tryz.prog w=.ok (.agg (va .u8 z16)) w:=by kernel_rfl
theorem fold_state{b:List Nat}(h:b.length=16):Array.foldl (fun (cs:Array Value) (x:Value×Nat)=>cs.setIfInBounds x.snd x.fst) (va .u8 z16) (va .u8 b).zipIdx 0 16=va .u8 b:=by
 obtain ⟨a0,a1,a2,a3,a4,a5,a6,a7,a8,a9,a10,a11,a12,a13,a14,a15,rfl⟩:=list16 h
 kernel_rfl
structure EnMem(G:Nat)(L b:List Nat)(w wr:World):Prop where
 k:Blk wr G 304 (va .u8 L)
 r:Blk wr (G+1+1) 26 (va .u8 z16)
 s:Blk wr (G+1+1+1) 382 (va .u8 b)
 bel:Below G w wr
theorem EnMem.step{G:Nat}{L b b':List Nat}{w wr w2:World}(h:EnMem G L b w wr)(hs:StMem (G+1+1+1) b' wr w2):EnMem G L b' w w2 :=
 ⟨h.k.below hs.bel (by omega),h.r.below hs.bel (by omega),hs.s,h.bel.trans (hs.bel.mono (by omega))⟩
theorem EnMem.key{G:Nat}{L b:List Nat}{w wr:World}(h:EnMem G L b w wr)(k:Nat):wr.rangeAt G (k*16) (nv .u8 (Ci.ks L k)):=fun j v hv=>h.k.part (k*16) 16 j v hv
set_option maxHeartbeats 1600000 in
theorem encrypt_any(L b:List Nat)(hLl:L.length=176)(hbl:b.length=16)(hL:Ci.Byt L)(hb:Ci.Byt b)(w:World):
 Calls Tryz.prog 166 #[.agg (va .u8 L),.agg (va .u8 b)] w fun e w'=>e=.returned (.agg (va .u8 (Ci.enc L b)))∧Below w.heap.size w w':=by
 have hsz0:(Tryz.prog.info? 26).map (·.size)=some (va .u8 b).size:=by rw [va_size,hbl];kernel_rfl
 have hsz:=Lib.hid hsz0
 have hzv:=zero16
 have hzs:=zeroState
 have hvs:(va .u8 b).size=16:=by rw [va_size,hbl]
 have hfold:=fold_state hbl
 have hmf:∀(fn:Fn) (first cap:Array Value) (w:World),(Instr.makeFunc fn first cap).run Tryz.prog w=.ok (.func fn first cap) w:=fun _ _ _ _=>rfl
 have hst:=run_storeNew (P:=Tryz.prog) (((w.alloc (.cells (va .u8 L) 304)).alloc (.cells (va .u8 b) 26)).alloc (.cells (va .u8 z16) 26)) 382 (va .u8 z16) .u8 b (by rw [va_size,hbl,z16_len])
 rw [show (((w.alloc (.cells (va .u8 L) 304)).alloc (.cells (va .u8 b) 26)).alloc (.cells (va .u8 z16) 26)).heap.size=w.heap.size+1+1+1 from by simp] at hst
 have hm:EnMem w.heap.size L b w ((((w.alloc (.cells (va .u8 L) 304)).alloc (.cells (va .u8 b) 26)).alloc (.cells (va .u8 z16) 26)).alloc (.cells (va .u8 b) 382)):=by
  refine ⟨(((Blk.new _ _ _).alloc _).alloc _).alloc _,?_,?_,((((Below.refl _ _).alloc (Nat.le_refl _) _).alloc (by simp) _).alloc (by simp<;>omega) _).alloc (by simp<;>omega) _⟩
  ·exact Blk.alloc (by have:=Blk.new ((w.alloc (.cells (va .u8 L) 304)).alloc (.cells (va .u8 b) 26)) 26 (va .u8 z16);simpa using this) _
  ·have:=Blk.new (((w.alloc (.cells (va .u8 L) 304)).alloc (.cells (va .u8 b) 26)).alloc (.cells (va .u8 z16) 26)) 382 (va .u8 b)
   simpa using this
 have hmm:=Lib.hid hm
 clear hsz0 hm
 go_enter Tryz.func166,Tryz.ntmps166
 go_wp2_with (first
  |(refine wpList_load_row rfl 26 (.tmp 3) rfl (w.heap.size+1) rfl 26 (va .u8 b) (0,0) _ ?hq Tryz.underlying26 rfl hsz.out ?_
    case hq=>exact Blk.alloc (by have:=Blk.new (w.alloc (.cells (va .u8 L) 304)) 26 (va .u8 b);simpa using this) _)
  |(refine wpList_buildv rfl 382 _ rfl (va .u8 b) (built_state hbl) ?_)
  |(refine wpList_load_mid rfl 26 (.tmp 18) rfl w.heap.size 0 rfl (nv .u8 (Ci.ks L 0)) _ (hmm.out.key 0) Tryz.underlying26 rfl (by rw [nv_len,Ci.ks_len hLl 0 (by omega)];kernel_rfl) ?_))
 refine (add_any (w.heap.size+1+1+1) b (Ci.ks L 0) hbl (Ci.ks_len hLl 0 (by omega)) hb (Ci.ks_byt hL 0) _ hmm.out.s).mono ?_
 rintro e w1 ⟨rfl,hs1⟩
 have hm1:=Lib.hid (hmm.out.step hs1)
 clear hs1 hst hfold hzs hzv hvs hmf hmm
 go_wp2
 go_loopw [10] (fun s wr=>∃k:Nat,k≤10∧s=.int .i64 ((k:Int)+1)∧EnMem w.heap.size L (Ci.encS L b k) w wr) (fun s _=>11-(intOf s).toNat)
 case atStart=>exact ⟨0,by omega,rfl,hm1.out⟩
 case round =>
  clear hm1
  obtain ⟨k,hk,rfl,hmem⟩:=hrel
  by_cases hlt:k<10
  ·have hltI:(k:Int)+1≤10:=by omega
   have hmm:=Lib.hid hmem
   clear hmem
   go_wp2_with fail
   refine (each_sub (w.heap.size+1+1+1) (Ci.encS L b k) (Ci.encS_len L b k) (Ci.encS_byt hL hb k) _ hmm.out.s).mono ?_
   rintro e w2 ⟨rfl,hs2⟩
   have hm2:=Lib.hid (hmm.out.step hs2)
   clear hs2 hmm
   go_wp2_with fail
   refine (rotate1_any (w.heap.size+1+1+1) (Ci.each Gf.sub (Ci.encS L b k)) (Ci.each_len _ _) (Ci.each_byt Gf.sub_lt _) _ hm2.out.s).mono ?_
   rintro e w3 ⟨rfl,hs3⟩
   have hm3:=Lib.hid (hm2.out.step hs3)
   clear hs3 hm2
   by_cases h10:k+1<10
   ·have h10I:(k:Int)+1<10:=by omega
    go_wp2_with fail
    refine (mix_any (w.heap.size+1+1+1) [2,3,1,1] (Ci.rot 1 (Ci.each Gf.sub (Ci.encS L b k))) rfl (Ci.rot_len _ _) Ci.fac_byt (Ci.rot_byt (Ci.each_byt Gf.sub_lt _)) _ hm3.out.s).mono ?_
    rintro e w4 ⟨rfl,hs4⟩
    have hm4:=Lib.hid (hm3.out.step hs4)
    clear hs4 hm3
    go_wp2_with (refine wpList_load_mid rfl 26 (.tmp 36) rfl w.heap.size ((k+1)*16) rfl (nv .u8 (Ci.ks L (k+1))) _ (hm4.out.key (k+1)) Tryz.underlying26 rfl (by rw [nv_len,Ci.ks_len hLl (k+1) (by omega)];kernel_rfl) ?_)
    refine (add_any (w.heap.size+1+1+1) (Ci.mix [2,3,1,1] (Ci.rot 1 (Ci.each Gf.sub (Ci.encS L b k)))) (Ci.ks L (k+1)) (Ci.mix_len _ _) (Ci.ks_len hLl (k+1) (by omega)) (Ci.mix_byt Ci.fac_byt (Ci.rot_byt (Ci.each_byt Gf.sub_lt _))) (Ci.ks_byt hL _) _ hm4.out.s).mono ?_
    rintro e w5 ⟨rfl,hs5⟩
    have hm5:=hm4.out.step hs5
    have he:Ci.addK (Ci.mix [2,3,1,1] (Ci.rot 1 (Ci.each Gf.sub (Ci.encS L b k)))) (Ci.ks L (k+1))=Ci.encS L b (k+1):=by
     show _=Ci.addK (if k+1<10 then _ else _) _
     rw [if_pos h10]
    rw [he] at hm5
    have hm6:=Lib.hid hm5
    clear hs5 hm4 hm5 he
    go_wp2
    go_roundw
    case rel=>exact ⟨k+1,by omega,by go_num,hm6.out⟩
    case measure=>simp [intOf];omega
   ·have h10I:10≤(k:Int)+1:=by omega
    go_wp2_with (refine wpList_load_mid rfl 26 (.tmp 36) rfl w.heap.size ((k+1)*16) rfl (nv .u8 (Ci.ks L (k+1))) _ (hm3.out.key (k+1)) Tryz.underlying26 rfl (by rw [nv_len,Ci.ks_len hLl (k+1) (by omega)];kernel_rfl) ?_)
    refine (add_any (w.heap.size+1+1+1) (Ci.rot 1 (Ci.each Gf.sub (Ci.encS L b k))) (Ci.ks L (k+1)) (Ci.rot_len _ _) (Ci.ks_len hLl (k+1) (by omega)) (Ci.rot_byt (Ci.each_byt Gf.sub_lt _)) (Ci.ks_byt hL _) _ hm3.out.s).mono ?_
    rintro e w5 ⟨rfl,hs5⟩
    have hm5:=hm3.out.step hs5
    have he:Ci.addK (Ci.rot 1 (Ci.each Gf.sub (Ci.encS L b k))) (Ci.ks L (k+1))=Ci.encS L b (k+1):=by
     show _=Ci.addK (if k+1<10 then _ else _) _
     rw [if_neg h10]
    rw [he] at hm5
    have hm6:=Lib.hid hm5
    clear hs5 hm3 hm5 he
    go_wp2
    go_roundw
    case rel=>exact ⟨k+1,by omega,by go_num,hm6.out⟩
    case measure=>simp [intOf];omega
  ·obtain rfl:k=10:=by omega
   have hel:(Ci.encS L b 10).length=16:=Ci.encS_len L b 10
   have hsz0:(Tryz.prog.info? 26).map (·.size)=some (va .u8 (Ci.encS L b 10)).size:=by rw [va_size,hel];kernel_rfl
   have hszE:=Lib.hid hsz0
   have hst:=run_storeBlk (P:=Tryz.prog) hmem.r .u8 (Ci.encS L b 10) (by rw [va_size,z16_len,hel])
   have hvs:(va .u8 (Ci.encS L b 10)).size=16:=by rw [va_size,hel]
   have hmm:=Lib.hid hmem
   clear hsz0 hmem hel
   go_wp2_with (refine wpList_load_row rfl 26 (.tmp 39) rfl (w.heap.size+1+1+1) rfl 382 (va .u8 (Ci.encS L b 10)) (0,0) _ hmm.out.s Tryz.underlying26 rfl hszE.out ?_)
   exact bodyPost_ret (results_cell_row rfl _ _ (w.heap.size+1+1) 26 (va .u8 (Ci.encS L b 10)) (0,0) _ rfl (hmm.out.r.row _) Tryz.underlying26 rfl hszE.out) rfl ⟨rfl,below_setRow hmm.out.bel (by omega) _⟩
end Go.Proofs.YtjboelhcieepkaaGreatDoor
namespace Go.Proofs.YtjboelhcieepkaaGreatDoor
set_option maxRecDepth 16384
open Go.RowKit
theorem VRec.nlen(x:VRec):x.nncB.length=12:=by simp [VRec.nncB,Sh.beB]
theorem VRec.nbyt(x:VRec):Sh.Byt x.nncB:=byt_app (Sh.beB_byt _ _) (Sh.beB_byt _ _)
theorem VNode.blen(x:VNode):x.bytes.length=(At.nodeB x).size:=by have:=At.len (.nodeB x);rwa [show (At.nodeB x).vals=nv .u8 x.bytes from rfl,nv_len] at this
noncomputable def bytesP:Rp SV→Option VByt
 | .nil=>some ⟨[],0,rfl,fun x hx=>by cases hx⟩
 | .one (.v (.int .u8 (.ofNat k)))=>match h:Nat.blt k 256 with
  |true=>some ⟨[k],1,rfl,fun y hy=>by rw [blt_iff,decide_eq_true_eq] at h;rw [List.mem_singleton] at hy;omega⟩
  |false=>none
 | .one _=>none
 | .arr .u8 n l=>match h:Nat.beq l.length n&&all8 l with
  |true=>some ⟨l,n,by rw [Bool.and_eq_true,beq_iff,decide_eq_true_eq] at h;exact h.1,by rw [Bool.and_eq_true] at h;exact all8_ok h.2⟩
  |false=>none
 | .arr _ _ _=>none
 | .q (.rcdB x)=>some ⟨x.bytes,45,x.blen,x.byt⟩
 | .q (.entB x)=>some ⟨x.bytes,33,x.blen,x.byt⟩
 | .q (.nncB x)=>some ⟨x.nncB,12,x.nlen,x.nbyt⟩
 | .q (.nodeB x)=>some ⟨x.bytes,_,x.blen,x.byt⟩
 | .q (.tag x)=>some ⟨x.tag,32,x.ht,x.hb⟩
 | .q (.dig x)=>some ⟨x.dig,32,x.ht,x.hb⟩
 | .q (.sha l)=>some ⟨Sh.shaF l,32,shaF_len l,shaF_byt l⟩
 | .q (.byt x)=>some x
 | .q _=>none
 | .node _ _ a b=>match bytesP a,bytesP b with
  |some x,some y=>some ⟨x.l++y.l,x.n+y.n,by rw [List.length_append,x.hl,y.hl],byt_app x.hb y.hb⟩
  |_,_=>none
theorem bytesP_ok{r:List Loc}{c:Rp SV}:∀{x:VByt} {us:List Value},bytesP c=some x→DenC r c us→us=nv .u8 x.l:=by
 induction c with
 |nil=>intro x us h d;cases h;cases d;rfl
 |one y =>
  intro x us h d
  unfold bytesP at h
  split at h<;>try (rename_i e;cases e)
  ·split at h
   ·cases h;exact one_inv d
   ·cases h
  ·cases h
 |arr k n m =>
  intro x us h d
  unfold bytesP at h
  split at h<;>try (rename_i e;cases e)
  ·split at h
   ·cases h;exact arr_inv d
   ·cases h
  ·cases h
 |q a =>
  intro x us h d
  cases d
  cases a with
  |rcdB x=>cases h;rfl
  |entB x=>cases h;rfl
  |nncB x=>cases h;rfl
  |nodeB x=>cases h;rfl
  |tag x=>cases h;rfl
  |dig x=>cases h;rfl
  |sha l=>cases h;rfl
  |byt x=>cases h;rfl
  |_=>cases h
 |node s t a b iha ihb =>
  intro x us h d
  unfold bytesP at h
  split at h
  ·rename_i x y ha hb
   cases h
   cases d with
   |node d1 d2 _ _ =>
    rw [iha ha d1,ihb hb d2]
    exact nv_app _ _ _
  ·cases h
noncomputable def partP(hp:Tr):SV→Option VByt
 | .s n o l c=>bif Nat.ble l c then (match sliceCells hp 1 (.s n o l c) with
  |some (_,cs)=>bytesP cs
  |none=>none) else none
 | .w n l=>(match sliceCells hp 1 (.w n l) with
  |some (_,cs)=>bytesP cs
  |none=>none)
 | .v (.slice none 0 _)=>some ⟨[],0,rfl,fun x hx=>by cases hx⟩
 |_=>none
section
variable {E:Env}{r:List Loc}{hp:Tr}{nx:Nat}{w:World}
theorem partP_ok(hm:Mem E r hp nx w){x:SV}{v:Value}{b:VByt}(h:partP hp x=some b)(d:Den r x v):∃A c,v=.slice A b.n c∧b.n≤c∧Reads w w.heap.size 1 A b.n (nv .u8 b.l):=by
 have key:∀{y:SV} {m:Nat} {cs:Rp SV},Den r y v→sliceCells hp 1 y=some (m,cs)→bytesP cs=some b→∃A c,v=.slice A m c∧Reads w w.heap.size 1 A m (nv .u8 b.l)∧b.n=m:=by
  intro y m cs dy hs hb
  obtain ⟨A,c,zs,e,hd,hl,hr⟩:=sliceCells_ok hm dy hs
  obtain rfl:=bytesP_ok hb hd
  exact ⟨A,c,e,hr,by rw [nv_len,b.hl] at hl;omega⟩
 unfold partP at h
 split at h
 ·rename_i n o m c
  cases hq:Nat.ble m c with
  |false=>rw [hq] at h;cases h
  |true =>
   rw [hq] at h
   simp only [cond_true] at h
   split at h
   ·rename_i m' cs hs
    obtain ⟨A,c',e,h1,h2⟩:=key d hs h
    cases d
    cases e
    rw [h2]
    exact ⟨_,_,rfl,Nat.le_of_ble_eq_true hq,h1⟩
   ·cases h
 ·rename_i n m
  split at h
  ·rename_i m' cs hs
   obtain ⟨A,c',e,h1,h2⟩:=key d hs h
   cases d with
   |w hL hl=>cases e;rw [h2];exact ⟨_,_,rfl,hl,h1⟩
  ·cases h
 ·cases h
  cases d
  exact ⟨none,_,rfl,Nat.zero_le _,⟨rfl,fun h=>absurd h (by show ¬ 0<0;omega)⟩⟩
 ·cases h
end
theorem st_vals{l h r:List Nat}(s:StOk l h r)(x:VByt)(hx:x.l=l):(stL true h r l.length)=x.st.toArray:=by
 unfold VByt.st stL
 rw [hx,s.v,s.h,←x.hl,hx]
theorem stOk_of(x:VByt):StOk x.l (Sh.hs x.l (x.n / 64)) (rowOf x.l):=by
 have key:∀(n:Nat) (l:List Nat),l.length=n→Sh.Byt l→∃h r,StOk l h r:=by
  intro n
  induction n with
  |zero=>intro l hl _;obtain rfl:=List.eq_nil_of_length_eq_zero hl;exact ⟨_,_,stOk_nil⟩
  |succ n ih =>
   intro l hl hb
   have hne:l≠[]:=by intro e;subst e;simp at hl
   have e:=List.dropLast_concat_getLast hne
   obtain ⟨h,r,s⟩:=ih l.dropLast (by simp [hl]) (fun x hx=>hb x ((List.dropLast_sublist l).subset hx))
   have hx:Sh.Byt [l.getLast hne]:=fun y hy=>by rw [List.mem_singleton] at hy;rw [hy];exact hb _ (List.getLast_mem hne)
   by_cases hq:l.dropLast.length%64+1=64
   ·have:=s.full [l.getLast hne] hx hq;rw [e] at this;exact ⟨_,_,this⟩
   ·have:=s.more [l.getLast hne] hx (by simp only [List.length_singleton];omega);rw [e] at this;exact ⟨_,_,this⟩
 obtain ⟨h,r,s⟩:=key x.l.length x.l rfl x.hb
 have e1:=s.h
 have e2:=s.v
 rw [x.hl] at e1
 rw [←e1,←e2]
 exact s
def VByt.nil:VByt:=⟨[],0,rfl,fun x hx=>by cases hx⟩
noncomputable def fNew(args:List SV):Option SV:=match args with
 |[]=>some (.a (.q (.st .nil)))
 |_=>none
theorem new_leaf:LeafOk Xt 11 (leafV fNew):=leafV_ok (enters (by kernel_rfl)) fun args y hf r vals w hd hg=>by
 unfold fNew at hf
 split at hf
 ·cases hf
  cases hd
  refine (new_any w (globT hg)).mono ?_
  rintro e w' ⟨rfl,h2⟩
  refine ⟨_,rfl,?_,h2⟩
  have e:stL true Sh.hL z64 0=VByt.nil.st.toArray:=st_vals stOk_nil .nil rfl
  rw [e]
  exact .a (.q (.st .nil))
 ·cases hf
def VByt.app(x y:VByt):VByt:=⟨x.l++y.l,x.n+y.n,by rw [List.length_append,x.hl,y.hl],byt_app x.hb y.hb⟩
noncomputable def leafWr:Leaf:=fun args hp nx=>match args with
 |[.a (.q (.st x)),s]=>(match partP hp s with
  |some y=>bif Nat.blt (x.n+y.n) 4611686018427387904 then some (.a (.q (.st (x.app y))),⟨⟨.e,0⟩,hp,nx⟩) else none
  |none=>none)
 |_=>none
theorem write_leaf:LeafOk Xt 12 leafWr:=by
 intro args hp nx res st hl E r vals w hE ha hm
 have hen:Enters Xt.P 12:=enters (by kernel_rfl)
 unfold leafWr at hl
 split at hl
 ·rename_i x s
  split at hl
  ·rename_i y hy
   cases hq:Nat.blt (x.n+y.n) 4611686018427387904 with
   |false=>rw [hq] at hl;cases hl
   |true =>
    rw [hq] at hl;cases hl
    rw [blt_iff,decide_eq_true_eq] at hq
    cases ha with
    |cons d1 t=>cases t with
     |cons d2 t =>
      cases t
      obtain ⟨A,c,rfl,hc,hr⟩:=partP_ok hm hy d2
      cases d1 with
      |a d1 =>
       cases d1
       have hg:GlobOk Xt w:=hE▸hm.globs
       have sx:=stOk_of x
       have:=write_any x.l _ _ y.l A y.n c w.heap.size sx y.hb hc (by rw [x.hl];omega) w (globT hg) hr (Nat.le_refl _)
       rw [st_vals sx x rfl] at this
       refine ⟨fun w'=>hen _ w',this.mono ?_⟩
       rintro e w' ⟨h',r',rfl,h2,h3⟩
       refine ⟨[],_,rfl,.a ?_,by simpa using hm.grow h3⟩
       have e2:=st_vals h2 (x.app y) rfl
       have e3:stLl true h' r' (x.l++y.l).length=(x.app y).st:=by
        have:=congrArg Array.toList e2
        simpa [stL] using this
       show DenC (r++[]) (.q (.st (x.app y))) (stLl true h' r' (x.l++y.l).length)
       rw [e3]
       exact .q (.st (x.app y))
  ·cases hl
 ·cases hl
noncomputable def fSum(args:List SV):Option SV:=match args with
 |[.a (.q (.st x))]=>bif Nat.blt x.n 1152921504606846976 then some (.a (.q (.sha x.l))) else none
 |_=>none
theorem sum_leaf:LeafOk Xt 13 (leafV fSum):=leafV_ok (enters (by kernel_rfl)) fun args y hf r vals w hd hg=>by
 unfold fSum at hf
 split at hf
 ·rename_i x
  cases hq:Nat.blt x.n 1152921504606846976 with
  |false=>rw [hq] at hf;cases hf
  |true =>
   rw [hq] at hf;cases hf
   rw [blt_iff,decide_eq_true_eq] at hq
   cases hd with
   |cons d t =>
    cases t
    cases d with
    |a d =>
     cases d
     have sx:=stOk_of x
     have:=sum_any x.l _ _ sx (by rw [x.hl];exact hq) w (globT hg)
     rw [st_vals sx x rfl] at this
     refine this.mono ?_
     rintro e w' ⟨rfl,h2⟩
     refine ⟨_,rfl,.a ?_,h2⟩
     rw [←Sh.shaF_eq]
     exact .q (.sha x.l)
 ·cases hf
def VByt.xor(x y:VByt):VByt:=⟨Sh.xorB x.l y.l,x.n,by rw [Sh.xorB_len,x.hl],Sh.xorB_byt _ _ x.hb y.hb⟩
noncomputable def leafX:Leaf:=fun args hp nx=>match args with
 |[a,b]=>(match partP hp a,partP hp b with
  |some x,some y=>bif Nat.beq x.n y.n&&(Nat.blt 0 x.n&&Nat.blt x.n 281474976710656) then some (.t [.s nx 0 x.n x.n,ok0],⟨⟨.e,0⟩,hp.put nx ⟨5,.q (.byt (x.xor y)),0⟩,nx+1⟩) else none
  |_,_=>none)
 |_=>none
theorem xor_leaf:LeafOk Xt 169 leafX:=by
 intro args hp nx res st hl E r vals w hE ha hm
 have hen:Enters Xt.P 169:=enters (by kernel_rfl)
 unfold leafX at hl
 split at hl
 ·split at hl
  ·rename_i a b x y hx hy
   cases hq:Nat.beq x.n y.n&&(Nat.blt 0 x.n&&Nat.blt x.n 281474976710656) with
   |false=>rw [hq] at hl;cases hl
   |true =>
    rw [hq] at hl;cases hl
    rw [Bool.and_eq_true,Bool.and_eq_true,beq_iff,blt_iff,blt_iff,decide_eq_true_eq,decide_eq_true_eq,decide_eq_true_eq] at hq
    obtain ⟨hn,h0,h63⟩:=hq
    cases ha with
    |cons d1 t=>cases t with
     |cons d2 t =>
      cases t
      obtain ⟨A,c,rfl,hc,hr⟩:=partP_ok hm hx d1
      obtain ⟨A2,c2,rfl,hc2,hr2⟩:=partP_ok hm hy d2
      rw [←hn] at hr2 ⊢
      refine ⟨fun w'=>hen _ w',(xor_any x.l y.l A A2 x.n c c2 w.heap.size x.hb y.hb h63 w hr hr2 (Nat.le_refl _)).mono ?_⟩
      rintro e w' ⟨p,rfl,h1,h2,h3⟩
      have nm:(r++[(⟨p,0,0,none,fun _=>False⟩:Loc)])[nx]?=some ⟨p,0,0,none,fun _=>False⟩:=by rw [←hm.len];simp
      refine ⟨[⟨p,0,0,none,fun _=>False⟩],_,rfl,.t (.cons (Den.s (o:=0) nm) (.cons (.v _) .nil)),?_⟩
      exact hm.add1 h3 ⟨p,0,0,none,fun _=>False⟩ ⟨5,.q (.byt (x.xor y)),0⟩ h2 ⟨nv .u8 (x.xor y).l,.q (.byt (x.xor y)),.inl ⟨rfl,Nat.le_trans hm.below.size h2,rfl,h1⟩⟩ (.inl (by show 0<2;decide))
  ·cases hl
 ·cases hl
noncomputable def fEnc(args:List SV):Option SV:=match args with
 |[.a s,.a b]=>(match bytesP s,bytesP b with
  |some x,some y=>match _h:Nat.beq x.n 176&&Nat.beq y.n 16 with
   |true=>some (.a (.q (.byt ⟨Ci.enc x.l y.l,16,Ci.encS_len _ _ _,Ci.encS_byt x.hb y.hb _⟩)))
   |false=>none
  |_,_=>none)
 |_=>none
theorem enc_leaf:LeafOk Xt 166 (leafV fEnc):=leafV_ok (enters (by kernel_rfl)) fun args y hf r vals w hd hg=>by
 unfold fEnc at hf
 split at hf
 ·split at hf
  ·rename_i s b x y hx hy
   split at hf
   ·rename_i hq
    cases hf
    rw [Bool.and_eq_true,beq_iff,beq_iff,decide_eq_true_eq,decide_eq_true_eq] at hq
    cases hd with
    |cons d1 t=>cases t with
     |cons d2 t =>
      cases t
      cases d1 with
      |a d1=>cases d2 with
       |a d2 =>
        obtain rfl:=bytesP_ok hx d1
        obtain rfl:=bytesP_ok hy d2
        refine (encrypt_any x.l y.l (by rw [x.hl,hq.1]) (by rw [y.hl,hq.2]) x.hb y.hb w).mono ?_
        rintro e w' ⟨rfl,h2⟩
        exact ⟨_,rfl,.a (.q (.byt ⟨Ci.enc x.l y.l,16,Ci.encS_len _ _ _,Ci.encS_byt x.hb y.hb _⟩)),h2⟩
   ·cases hf
  ·cases hf
 ·cases hf
noncomputable def fNput2(args:List SV):Option (TypeId×Rp SV×Nat×Nat×Option (List SV)):=match args with
 |[.a (.q (.nnc x))]=>some (5,.q (.nncB x),12,12,none)
 |[.a c]=>(match rflat c [] with
  |[.one (.v (.int .u32 (.ofNat sh))),.one (.v (.int .u64 (.ofNat k)))]=>bif Nat.blt sh 4294967296 then some (5,.arr .u8 12 (Sh.beB sh 4++Sh.beB k 8),12,12,none) else none
  |_=>none)
 |_=>none
theorem nput2_leaf:LeafOk Xt 22 (leafS fNput2):=leafS_ok (enters (by kernel_rfl)) fun args T cs l c zs hf r vals w hd hg=>by
 unfold fNput2 at hf
 split at hf
 ·rename_i x
  cases hf
  cases hd with
  |cons d t =>
   cases t
   cases d with
   |a d =>
    cases d
    refine ⟨_,none,.q _,rfl,(nput_any x.sh x.c x.hsh w).mono ?_⟩
    rintro e w' ⟨p,rfl,h1,h2,h3⟩
    exact ⟨p,rfl,h2,h1,h3⟩
 ·split at hf
  ·rename_i c0 _ _ sh k hfl
   cases hq:Nat.blt sh 4294967296 with
   |false=>rw [hq] at hf;cases hf
   |true =>
    rw [hq] at hf;cases hf
    rw [blt_iff,decide_eq_true_eq] at hq
    obtain ⟨us,rfl,d⟩:=denRow hd
    have hF:=flat_ok _ d .nil
    rw [List.append_nil,hfl] at hF
    cases hF with
    |cons d1 t=>cases t with
     |cons d2 t =>
      cases t
      obtain rfl:=one_inv d1
      obtain rfl:=one_inv d2
      refine ⟨_,none,.arr (by simp [Sh.beB_len]),rfl,(nput_any sh k hq w).mono ?_⟩
      rintro e w' ⟨p,rfl,h1,h2,h3⟩
      exact ⟨p,rfl,h2,h1,h3⟩
  ·cases hf
 ·cases hf
noncomputable def tab6:List (FuncId×Leaf):=[(11,leafV fNew),(12,leafWr),(13,leafV fSum),(169,leafX),(166,leafV fEnc),(22,leafS fNput2)]++tab5
theorem tab6_ok:∀p∈tab6,LeafOk Xt p.1 p.2:=by
 intro p hp
 rcases List.mem_append.1 hp with hp|hp
 ·simp only [List.mem_cons,List.not_mem_nil,or_false] at hp
  rcases hp with rfl|rfl|rfl|rfl|rfl|rfl
  ·exact new_leaf
  ·exact write_leaf
  ·exact sum_leaf
  ·exact xor_leaf
  ·exact enc_leaf
  ·exact nput2_leaf
 ·exact tab5_ok p hp
end Go.Proofs.YtjboelhcieepkaaGreatDoor
namespace Go.Proofs.YtjboelhcieepkaaGreatDoor
set_option maxRecDepth 16384
open Go.RowKit
def z176:List Nat:=List.replicate 176 0
theorem z176_len:z176.length=176:=List.length_replicate ..
theorem zeroWords(w:World):(zeroValue 456).run Tryz.prog w=.ok (.agg (va .u8 z176)) w:=by kernel_rfl
end Go.Proofs.YtjboelhcieepkaaGreatDoor
namespace Go.Proofs.YtjboelhcieepkaaGreatDoor.Ci
set_option maxRecDepth 16384
def tw(b:List Nat)(K j:Nat):Nat:=Gf.sub (b.getD (12+(j+1)%4) 0) ^^^ (if j=0 then Gf.pw 2 K else 0)
def col(b:List Nat)(K j:Nat):Nat→Nat
 |0=>tw b K j ^^^ b.getD j 0
 |q+1=>col b K j q ^^^ b.getD (4*(q+1)+j) 0
def rowE(key:List Nat):Nat→List Nat
 |0=>key
 |K+1=>(List.range 16).map fun i=>col (rowE key K) K (i%4) (i / 4)
def exF(key:List Nat)(n:Nat):Nat:=(rowE key (n / 16)).getD (n%16) 0
def exL(key:List Nat):List Nat:=(List.range 176).map (exF key)
def wd(b:List Nat)(K i:Nat):List Nat:=(List.range 4).map fun j=>match (i+3-j) / 4 with
 |0=>tw b K j
 |q+1=>col b K j q
theorem wd_step(b:List Nat)(K:Nat):∀i,i<16→(wd b K i).set (i%4) (col b K (i%4) (i / 4))=wd b K (i+1)∧(wd b K i).getD (i%4) 0 ^^^ b.getD i 0=col b K (i%4) (i / 4)
 |0,_=>⟨rfl,rfl⟩
 |1,_=>⟨rfl,rfl⟩
 |2,_=>⟨rfl,rfl⟩
 |3,_=>⟨rfl,rfl⟩
 |4,_=>⟨rfl,rfl⟩
 |5,_=>⟨rfl,rfl⟩
 |6,_=>⟨rfl,rfl⟩
 |7,_=>⟨rfl,rfl⟩
 |8,_=>⟨rfl,rfl⟩
 |9,_=>⟨rfl,rfl⟩
 |10,_=>⟨rfl,rfl⟩
 |11,_=>⟨rfl,rfl⟩
 |12,_=>⟨rfl,rfl⟩
 |13,_=>⟨rfl,rfl⟩
 |14,_=>⟨rfl,rfl⟩
 |15,_=>⟨rfl,rfl⟩
 |n+16,h=>by omega
theorem wd_zero(b:List Nat)(K:Nat):wd b K 0=[Gf.sub (b.getD 13 0) ^^^ Gf.pw 2 K,Gf.sub (b.getD 14 0),Gf.sub (b.getD 15 0),Gf.sub (b.getD 12 0)]:=by
 show [_,Gf.sub (b.getD 14 0) ^^^ 0,Gf.sub (b.getD 15 0) ^^^ 0,Gf.sub (b.getD 12 0) ^^^ 0]=_
 simp only [Nat.xor_zero]
 rfl
theorem wd_len(b:List Nat)(K i:Nat):(wd b K i).length=4:=by simp [wd]
theorem tw_lt(b:List Nat)(K j:Nat):tw b K j<256:=by
 unfold tw
 refine Nat.xor_lt_two_pow (n:=8) (Gf.sub_lt _) ?_
 split
 ·exact Gf.pw_lt 2 K (by omega)
 ·omega
theorem col_lt{b:List Nat}(hb:Byt b)(K j:Nat):∀q,col b K j q<256
 |0=>Nat.xor_lt_two_pow (n:=8) (tw_lt b K j) (hb.get _)
 |q+1=>Nat.xor_lt_two_pow (n:=8) (col_lt hb K j q) (hb.get _)
theorem wd_byt{b:List Nat}(hb:Byt b)(K i:Nat):Byt (wd b K i):=byt_map fun j _=>by
 split
 ·exact tw_lt b K j
 ·exact col_lt hb K j _
theorem rowE_len{key:List Nat}(h:key.length=16):∀K,(rowE key K).length=16
 |0=>h
 |_+1=>by simp [rowE]
theorem rowE_byt{key:List Nat}(h:Byt key):∀K,Byt (rowE key K)
 |0=>h
 |K+1=>byt_map fun _ _=>col_lt (rowE_byt h K) _ _ _
theorem exF_row(key:List Nat)(K i:Nat)(hi:i<16):exF key (16*K+i)=(rowE key K).getD i 0:=by
 unfold exF
 rw [show (16*K+i) / 16=K from by omega,show (16*K+i)%16=i from by omega]
theorem exF_next(key:List Nat)(K i:Nat)(hi:i<16):exF key (16*(K+1)+i)=col (rowE key K) K (i%4) (i / 4):=by
 rw [exF_row key (K+1) i hi]
 simp [rowE,List.getD_eq_getElem?_getD,hi]
theorem exL_len(key:List Nat):(exL key).length=176:=by simp [exL]
theorem exF_lt{key:List Nat}(h:Byt key)(n:Nat):exF key n<256:=(rowE_byt h _).get _
theorem exL_byt{key:List Nat}(h:Byt key):Byt (exL key):=byt_map fun n _=>exF_lt h n
theorem upd_row(key z:List Nat)(hz:z.length=176)(hk:key.length=16)(K n:Nat)(hn:16*(K+1)≤n)(hn2:n≤176):((upd (exF key) z n).drop (K*16)).take 16=rowE key K:=by
 apply List.ext_getElem
 ·simp [upd_len,hz,rowE_len hk];omega
 ·intro i h1 h2
  have hi:i<16:=by rw [rowE_len hk] at h2;exact h2
  have e:=upd_get (exF key) z n (K*16+i) (by omega)
  rw [if_pos (by omega),show K*16+i=16*K+i from by omega,exF_row key K i hi] at e
  rw [List.getElem_take,List.getElem_drop]
  have h3:K*16+i<(upd (exF key) z n).length:=by rw [upd_len];omega
  simp only [List.getD_eq_getElem?_getD,List.getElem?_eq_getElem h2] at e
  rw [show 16*K+i=K*16+i from by omega,List.getElem?_eq_getElem h3] at e
  simpa using e
theorem upd_first(key z:List Nat)(hz:z.length=176)(hk:key.length=16):key++z.drop 16=upd (exF key) z 16:=by
 apply List.ext_getElem
 ·simp [upd_len,hz,hk]
 ·intro i h1 h2
  have hi:i<176:=by rw [upd_len] at h2;omega
  simp only [upd,List.getElem_map,List.getElem_range]
  rw [List.getElem_append]
  split
  ·rename_i h
   rw [if_pos (by omega)]
   have e:=exF_row key 0 i (by omega)
   simp only [Nat.mul_zero,Nat.zero_add] at e
   rw [e]
   show _=key.getD i 0
   simp [List.getD_eq_getElem?_getD,h]
  ·rename_i h
   rw [if_neg (by omega)]
   rw [List.getElem_drop]
   simp [List.getD_eq_getElem?_getD,hk,show 16+(i-16)=i from by omega,show i<z.length from by omega]
theorem exL_all(key z:List Nat)(hz:z.length=176):upd (exF key) z 176=exL key:=by
 rw [upd_all _ _ _ (by omega),hz];rfl
end Go.Proofs.YtjboelhcieepkaaGreatDoor.Ci
