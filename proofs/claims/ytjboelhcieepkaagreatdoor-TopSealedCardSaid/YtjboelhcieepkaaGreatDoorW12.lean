/- A part of the proof of TopSealed. -/
import Derived.Test.YtjboelhcieepkaaGreatDoorW11
noncomputable section
set_option maxRecDepth 16384
set_option maxHeartbeats 2000000
namespace Go.Proofs.YtjboelhcieepkaaGreatDoor
open Go.RowKit
theorem aOP(S:Nat)(b:List Nat)(hbl:b.length=16)(hb:Ci.Byt b)(w:World)(hs:aC w S 382 (va .u8 b)):
 Calls Tryz.prog 227 #[.pointer (some ⟨S,0,none⟩),.func (.func 224) #[] #[]] w λe w'=>e=.returned (.tuple #[])∧k7 S (Ci.each Gf.sub b) w w':=by
 have hlt0:=hs.lt
 have hm:k7 S (Ci.upd (λi=>Gf.sub (b.getD i 0)) b 0) w w:=by
  rw [Ci.upd_zero];exact ⟨hs,Below.refl _ _⟩
 have hmm:=Lib.hid hm
 have hsz0:(Tryz.prog.info? 26).map (·.size)=some (va .u8 b).size:=by rw [b9,hbl];kernel_rfl
 have hsz:=Lib.hid hsz0
 obtain ⟨ie,hie,_,his,_⟩:=info_parts xM
 have hix:∀(k:Nat) (W:World),k<16->(Instr.index 26 (.agg (va .u8 b)) (.int .i64 (k:Int))).run Tryz.prog W=.ok (.int .u8 ((b.getD k 0:Nat):Int)) W:=λk W hk=>aAs Tryz.underlying26 Tryz.underlying5 hie his hbl hk W
 have hixh:=Lib.hid hix
 have hsh:=Lib.hid hs
 clear hm hsz0 hix hs
 go_enter Tryz.func227,Tryz.ntmps227
 go_wp2_with (refine wpList_load_row rfl 26 (.tmp 8) rfl S rfl 382 (va .u8 b) (0,0) _ hsh.out Tryz.underlying26 rfl hsz.out ?_)
 go_loopw [10] (λs wr=>∃k:Nat,k≤16∧s=.int .i64 (k:Int)∧k7 S (Ci.upd (λi=>Gf.sub (b.getD i 0)) b k) w wr) (λs _=>16-(intOf s).toNat)
 case atStart=>exact ⟨0,by omega,rfl,hmm.out⟩
 case round =>
  clear hmm
  obtain ⟨k,hk16,rfl,hmem⟩:=hrel
  by_cases hlt:k<16
  ·have hltI:(k:Int)<16:=by omega
   have hrun:=λW=>hixh.out k W hlt
   have hx:=hb.get k
   have hset:=Lib.hid (Ci.upd_set (λi=>Gf.sub (b.getD i 0)) b k)
   have hmh:=Lib.hid hmem
   obtain ⟨x,hxe⟩:∃x,b.getD k 0=x:=⟨_,rfl⟩
   simp only [hxe] at hrun
   rw [hxe] at hx
   have hxe':=Lib.hid hxe
   clear hxe hmem
   go_wp2
   go_region_with (first
    |(go_at_call 224
      refine (O1 x (Gf.sub x) hx rfl _).mono ?_
      rintro e w1 ⟨rfl,b1⟩
      have hS1:=Lib.hid (hmh.out.s.drew.below b1 hmh.out.s.lt)
      have hB1:=Lib.hid ((jV hmh.out.bel 1).trans (b1.mono (Nat.le_of_lt hmh.out.s.lt)))
      have c1:=hS1.out.num (i:=k) (by rw [Ci.upd_len];omega)
      have f1:=hS1.out.frozen k
      clear b1))
   all_goals
    go_wp2
    go_roundw
   all_goals first
    |(refine ⟨k+1,by omega,by go_num,⟨?_,hB1.out.setCell (aS _) _⟩⟩
      rw [<-hset.out,hxe'.out]
      exact hS1.out.setNum k (Gf.sub x))
    |(simp [intOf];omega)
  ·obtain rfl:k=16:=by omega
   go_wp2
   go_end0
   refine ⟨rfl,?_,hmem.bel⟩
   have:=hmem.s
   rw [Ci.upd_all _ _ _ (by omega),hbl] at this
   exact this
def eD:List Nat:=List.replicate 16 0
theorem oB:eD.length=16:=lR ..
theorem wJ(w:World):(zeroValue 26).run Tryz.prog w=.ok (.agg (va .u8 eD)) w:=by kernel_rfl
set_option maxRecDepth 8000 in
theorem aWR(S:Nat)(b:List Nat)(hbl:b.length=16)(_hb:Ci.Byt b)(w:World)(hs:aC w S 382 (va .u8 b)):
 Calls Tryz.prog 228 #[.pointer (some ⟨S,0,none⟩),.int .i64 1] w λe w'=>e=.returned (.tuple #[])∧k7 S (Ci.rot 1 b) w w':=by
 have hlt0:=hs.lt
 have hm:k7 S (Ci.upd (λi=>b.getD (4*((i / 4+1*(i%4))%4)+i%4) 0) b 0) w (w.alloc (.cells (va .u8 b) 26)):=by
  rw [Ci.upd_zero];exact ⟨hs.alloc _,(Below.refl _ _).alloc (by omega) _⟩
 have hkk:aC (w.alloc (.cells (va .u8 b) 26)) w.heap.size 26 (va .u8 b):=aC.new _ _ _
 have hmm:=Lib.hid hm
 have hkh:=Lib.hid hkk
 have hsz0:(Tryz.prog.info? 26).map (·.size)=some (va .u8 b).size:=by rw [b9,hbl];kernel_rfl
 have hsz:=Lib.hid hsz0
 have hvs:(va .u8 b).size=16:=by rw [b9,hbl]
 have hzv:=wJ
 have hst:=tF (P:=Tryz.prog) w 26 (va .u8 eD) .u8 b (by rw [b9,hbl,oB])
 have hsh:=Lib.hid hs
 clear hm hkk hsz0 hs
 go_enter Tryz.func228,Tryz.ntmps228
 go_wp2_with (refine wpList_load_row rfl 26 (.tmp 9) rfl S rfl 382 (va .u8 b) (0,0) _ hsh.out Tryz.underlying26 rfl hsz.out ?_)
 clear hst hvs hzv
 generalize w.alloc (.cells (va .u8 b) 26)=w1 at *
 go_loopw [11] (λs wr=>∃c:Nat,c≤4∧s=.int .i64 (c:Int)∧k7 S (Ci.upd (λi=>b.getD (4*((i / 4+1*(i%4))%4)+i%4) 0) b (4*c)) w wr∧aC wr w.heap.size 26 (va .u8 b)) (λs _=>4-(intOf s).toNat)
 case atStart=>exact ⟨0,by omega,rfl,hmm.out,hkh.out⟩
 case round =>
  clear hmm hkh
  obtain ⟨c,hc4,rfl,hmem,hold⟩:=hrel
  by_cases hlc:c<4
  ·have hlcI:(c:Int)<4:=by omega
   have hmm:=Lib.hid hmem
   have hkh:=Lib.hid hold
   clear hmem hold
   go_wp2
   go_loopw [14] (λs wr=>∃r:Nat,r≤4∧s=.int .i64 (r:Int)∧k7 S (Ci.upd (λi=>b.getD (4*((i / 4+1*(i%4))%4)+i%4) 0) b (4*c+r)) w wr∧aC wr w.heap.size 26 (va .u8 b)) (λs _=>4-(intOf s).toNat)
   case atStart=>exact ⟨0,by omega,rfl,hmm.out,hkh.out⟩
   case round =>
    clear hmm hkh
    obtain ⟨r,hr4,rfl,hmem,hold⟩:=hrel
    by_cases hlr:r<4
    ·have hlrI:(r:Int)<4:=by omega
     obtain ⟨q,hq⟩:∃q,(c+r)%4=q:=⟨_,rfl⟩
     obtain ⟨j,hj⟩:∃j,4*q+r=j:=⟨_,rfl⟩
     obtain ⟨i,hi⟩:∃i,4*c+r=i:=⟨_,rfl⟩
     have hq4:q<4:=by omega
     have hj16:j<16:=by omega
     have hi16:i<16:=by omega
     have hqe:((c:Int)+(r:Int))%4=(q:Int):=by omega
     have hqt:((c:Int)+(r:Int)).tmod 4=(q:Int):=by rw [Int.tmod_eq_emod_of_nonneg (by omega)];exact hqe
     have hjI:4*(q:Int)+(r:Int)=(j:Int):=by omega
     have hiI:4*(c:Int)+(r:Int)=(i:Int):=by omega
     have hj16I:(j:Int)<16:=by omega
     have hi16I:(i:Int)<16:=by omega
     have w1:IntKind.i64.wrap ((r:Int))=(r:Int):=IntWalk.i64_in _ (by omega)
     have w2:IntKind.i64.wrap ((c:Int)+(r:Int))=(c:Int)+(r:Int):=IntWalk.i64_in _ (by omega)
     have w4:IntKind.i64.wrap (4*(q:Int))=4*(q:Int):=IntWalk.i64_in _ (by omega)
     have w5:IntKind.i64.wrap (j:Int)=(j:Int):=IntWalk.i64_in _ (by omega)
     have w6:IntKind.i64.wrap (4*(c:Int))=4*(c:Int):=IntWalk.i64_in _ (by omega)
     have w7:IntKind.i64.wrap (i:Int)=(i:Int):=IntWalk.i64_in _ (by omega)
     rw [hi] at hmem
     have hfi:b.getD (4*((i / 4+1*(i%4))%4)+i%4) 0=b.getD j 0:=by
      have e1:i / 4=c:=by omega
      have e2:i%4=r:=by omega
      rw [e1,e2]
      have e3:(c+1*r)%4=q:=by omega
      rw [e3,hj]
     have hc0:=hmem.s.num (i:=i) (by rw [Ci.upd_len];omega)
     have hf:=hmem.s.frozen i
     have hc2:=hold.num (i:=j) (by omega)
     have hset:=Ci.upd_set (λi=>b.getD (4*((i / 4+1*(i%4))%4)+i%4) 0) b i
     rw [hfi] at hset
     obtain ⟨x,hxe⟩:∃x,b.getD j 0=x:=⟨_,rfl⟩
     rw [hxe] at hc2 hset
     have hset':=Lib.hid hset
     have hih:=Lib.hid hi
     have hmh:=Lib.hid hmem
     have hkh:=Lib.hid hold
     generalize (Ci.upd (λi=>b.getD (4*((i / 4+1*(i%4))%4)+i%4) 0) b i).getD i 0=y0 at *
     clear hmem hold hset hxe hi hj hq hfi
     go_wp2
     refine wp_region_still_tail 19 (by kernel_rfl) (by kernel_rfl) ?_
     simp only [List.take_succ_cons,List.take_zero,List.drop_succ_cons,List.drop_zero]
     change wpStill _ _ wr.drew _ _ _
     iterate 19 still_step
     refine wpStill_nil ?_
     change wpList _ _ _ _ _ wr.drew
     go_wp2
     go_roundw
     case rel =>
      refine ⟨r+1,by omega,by go_num,⟨?_,(jV hmh.out.bel 1).setCell (aS _) _⟩,hkh.out.drew.far (by simp;omega) _⟩
      have e4:4*c+(r+1)=i+1:=by rw [<-hih.out];omega
      rw [e4,<-hset'.out]
      exact hmh.out.s.drew.setNum i x
     case measure=>simp [intOf];omega
    ·obtain rfl:r=4:=by omega
     have hmm:=Lib.hid hmem
     have hkh:=Lib.hid hold
     clear hmem hold
     go_wp2
     go_roundw
     case rel=>exact ⟨c+1,by omega,by go_num,by rw [show 4*(c+1)=4*c+4 from by omega];exact hmm.out,hkh.out⟩
     case measure=>simp [intOf];omega
  ·obtain rfl:c=4:=by omega
   go_wp2
   go_end0
   refine ⟨rfl,?_,hmem.bel⟩
   have:=hmem.s
   rw [Ci.upd_all _ _ _ (by omega),hbl] at this
   exact this
theorem aUd(S:Nat)(f b:List Nat)(hfl:f.length=4)(hbl:b.length=16)(hfb:Ci.Byt f)(hb:Ci.Byt b)(w:World)(hs:aC w S 382 (va .u8 b)):
 Calls Tryz.prog 229 #[.pointer (some ⟨S,0,none⟩),.agg (va .u8 f)] w λe w'=>e=.returned (.tuple #[])∧k7 S (Ci.mix f b) w w':=by
 have hlt0:=hs.lt
 have hm:k7 S (Ci.upd (λi=>Ci.mixS f b (i / 4) (i%4) 4) b 0) w ((w.alloc (.cells (va .u8 f) 378)).alloc (.cells (va .u8 b) 26)):=by
  rw [Ci.upd_zero];exact ⟨(hs.alloc _).alloc _,((Below.refl _ _).alloc (by omega) _).alloc (by simp;omega) _⟩
 have hkk:aC ((w.alloc (.cells (va .u8 f) 378)).alloc (.cells (va .u8 b) 26)) (w.heap.size+1) 26 (va .u8 b):=by
  have:=aC.new (w.alloc (.cells (va .u8 f) 378)) 26 (va .u8 b)
  simpa using this
 have hff:aC ((w.alloc (.cells (va .u8 f) 378)).alloc (.cells (va .u8 b) 26)) w.heap.size 378 (va .u8 f):=(aC.new _ _ _).alloc _
 have hmm:=Lib.hid hm
 have hkh:=Lib.hid hkk
 have hfh:=Lib.hid hff
 have hsz0:(Tryz.prog.info? 26).map (·.size)=some (va .u8 b).size:=by rw [b9,hbl];kernel_rfl
 have hsz:=Lib.hid hsz0
 have hsz40:(Tryz.prog.info? 378).map (·.size)=some (va .u8 f).size:=by rw [b9,hfl];kernel_rfl
 have hsz4:=Lib.hid hsz40
 have hvs:(va .u8 b).size=16:=by rw [b9,hbl]
 have hzv:=wJ
 have hst:=tF (P:=Tryz.prog) (w.alloc (.cells (va .u8 f) 378)) 26 (va .u8 eD) .u8 b (by rw [b9,hbl,oB])
 rw [show (w.alloc (.cells (va .u8 f) 378)).heap.size=w.heap.size+1 from by simp] at hst
 have hsh:=Lib.hid (hs.alloc (.cells (va .u8 f) 378))
 obtain ⟨ie,hie,_,his,_⟩:=info_parts xM
 have hix:∀(k:Nat) (W:World),k<4->(Instr.index 378 (.agg (va .u8 f)) (.int .i64 (k:Int))).run Tryz.prog W=.ok (.int .u8 ((f.getD k 0:Nat):Int)) W:=λk W hk=>aAs Tryz.underlying378 Tryz.underlying5 hie his hfl hk W
 have hixh:=Lib.hid hix
 clear hm hkk hff hsz0 hsz40 hs hix
 go_enter Tryz.func229,Tryz.ntmps229
 go_wp2_with (refine wpList_load_row rfl 26 (.tmp 12) rfl S rfl 382 (va .u8 b) (0,0) _ hsh.out Tryz.underlying26 rfl hsz.out ?_)
 clear hst hvs hzv
 generalize (w.alloc (.cells (va .u8 f) 378)).alloc (.cells (va .u8 b) 26)=w1 at *
 go_loopw [14] (λs wr=>∃c:Nat,c≤4∧s=.int .i64 (c:Int)∧k7 S (Ci.upd (λi=>Ci.mixS f b (i / 4) (i%4) 4) b (4*c)) w wr∧aC wr (w.heap.size+1) 26 (va .u8 b)∧aC wr w.heap.size 378 (va .u8 f)) (λs _=>4-(intOf s).toNat)
 case atStart=>exact ⟨0,by omega,rfl,hmm.out,hkh.out,hfh.out⟩
 case round =>
  clear hmm hkh hfh hsh
  obtain ⟨c,hc4,rfl,hmem,hold,hfac⟩:=hrel
  by_cases hlc:c<4
  ·have hlcI:(c:Int)<4:=by omega
   have hmm:=Lib.hid hmem
   have hkh:=Lib.hid hold
   have hfh:=Lib.hid hfac
   clear hmem hold hfac
   go_wp2
   go_loopw [17] (λs wr=>∃r:Nat,r≤4∧s=.int .i64 (r:Int)∧k7 S (Ci.upd (λi=>Ci.mixS f b (i / 4) (i%4) 4) b (4*c+r)) w wr∧aC wr (w.heap.size+1) 26 (va .u8 b)∧aC wr w.heap.size 378 (va .u8 f)) (λs _=>4-(intOf s).toNat)
   case atStart=>exact ⟨0,by omega,rfl,hmm.out,hkh.out,hfh.out⟩
   case round =>
    clear hmm hkh hfh
    obtain ⟨r,hr4,rfl,hmem,hold,hfac⟩:=hrel
    by_cases hlr:r<4
    ·have hlrI:(r:Int)<4:=by omega
     have hmm:=Lib.hid hmem
     have hkh:=Lib.hid hold
     have hfh:=Lib.hid hfac
     clear hmem hold hfac
     go_wp2_with (refine wpList_load_row rfl 378 (.tmp 3) rfl w.heap.size rfl 378 (va .u8 f) (0,0) _ hfh.out Tryz.underlying378 rfl hsz4.out ?_)
     go_loopw [7,21] (λv s wx=>∃j:Nat,j≤4∧s=.int .i64 (j:Int)∧v=.int .u8 (Ci.mixS f b c r j:Nat)∧k7 S (Ci.upd (λi=>Ci.mixS f b (i / 4) (i%4) 4) b (4*c+r)) w wx∧aC wx (w.heap.size+1) 26 (va .u8 b)∧aC wx w.heap.size 378 (va .u8 f)) (λ_ s _=>4-(intOf s).toNat)
     case atStart=>exact ⟨0,by omega,rfl,rfl,hmm.out,hkh.out,hfh.out⟩
     case round =>
      clear hmm hkh hfh
      obtain ⟨j,hj4,rfl,rfl,hmem,hold,hfac⟩:=hrel
      by_cases hlj:j<4
      ·have hljI:(j:Int)<4:=by omega
       have hrun:=λW=>hixh.out j W hlj
       obtain ⟨q,hq⟩:∃q,(r+j)%4=q:=⟨_,rfl⟩
       obtain ⟨i,hi⟩:∃i,4*c+q=i:=⟨_,rfl⟩
       have hq4:q<4:=by omega
       have hi16:i<16:=by omega
       have hqt:((r:Int)+(j:Int)).tmod 4=(q:Int):=by rw [Int.tmod_eq_emod_of_nonneg (by omega)];omega
       have hqe:((r:Int)+(j:Int))%4=(q:Int):=by omega
       have hiI:4*(c:Int)+(q:Int)=(i:Int):=by omega
       have hi16I:(i:Int)<16:=by omega
       have hc2:=hold.num (i:=i) (by omega)
       have hfx:=hfb.get j
       have hbx:=hb.get i
       have aH:=Ci.mixS_lt f b hfb hb c r j
       have hstep:Ci.mixS f b c r (j+1)=Ci.mixS f b c r j ^^^ Gf.gm (f.getD j 0) (b.getD i 0):=by
        show Ci.mixS f b c r j ^^^ Gf.gm (f.getD j 0) (b.getD (4*c+(r+j)%4) 0)=_
        rw [hq,hi]
       obtain ⟨x,hxe⟩:∃x,f.getD j 0=x:=⟨_,rfl⟩
       obtain ⟨y,hye⟩:∃y,b.getD i 0=y:=⟨_,rfl⟩
       simp only [hxe] at hrun
       rw [hxe] at hfx hstep
       rw [hye] at hbx hc2 hstep
       obtain ⟨z,hze⟩:∃z,Gf.gm x y=z:=⟨_,rfl⟩
       have hz8:z<256:=by rw [<-hze];exact Gf.gm_lt _ _ hfx
       rw [hze] at hstep
       have hxor:bits BinOp.xor IntKind.u8 ((Ci.mixS f b c r j:Nat):Int) (z:Int)=((Ci.mixS f b c r (j+1):Nat):Int):=by rw [hstep];exact u8_xor_nat _ _ aH hz8
       have hxor':=Lib.hid hxor
       generalize Ci.mixS f b c r j=m0 at *
       obtain ⟨m1,hm1⟩:∃m1,Ci.mixS f b c r (j+1)=m1:=⟨_,rfl⟩
       rw [hm1] at hxor
       have hm1':=Lib.hid hm1
       clear hm1
       have hze':=Lib.hid hze
       have hmm:=Lib.hid hmem
       have hkh:=Lib.hid hold
       have hfh:=Lib.hid hfac
       clear hmem hold hfac hxe hye hq hi hstep hze hxor'
       go_wp2_with fail
       refine (bDU x y z hfx hbx hze'.out _).mono ?_
       rintro e w2 ⟨rfl,b2⟩
       have hmm2:=Lib.hid (k7.mk (S:=S) (w:=w) (hmm.out.s.below b2 hmm.out.s.lt) (hmm.out.bel.trans (b2.mono (Nat.le_of_lt hmm.out.s.lt))))
       have hkh2:=Lib.hid (hkh.out.below b2 hkh.out.lt)
       have hfh2:=Lib.hid (hfh.out.below b2 hfh.out.lt)
       clear hmm hkh hfh b2 hc2 hrun
       go_wp2
       go_roundw
       case rel=>exact ⟨j+1,by omega,by go_num,by rw [hm1'.out],hmm2.out,hkh2.out,hfh2.out⟩
       case measure=>simp [intOf];omega
      ·obtain rfl:j=4:=by omega
       obtain ⟨i,hi⟩:∃i,4*c+r=i:=⟨_,rfl⟩
       have hi16:i<16:=by omega
       have hiI:4*(c:Int)+(r:Int)=(i:Int):=by omega
       have hi16I:(i:Int)<16:=by omega
       have hfi:Ci.mixS f b (i / 4) (i%4) 4=Ci.mixS f b c r 4:=by
        rw [show i / 4=c from by omega,show i%4=r from by omega]
       have hset:=Ci.upd_set (λi=>Ci.mixS f b (i / 4) (i%4) 4) b i
       simp only [hfi] at hset
       rw [hi] at hmem
       have hc0:=hmem.s.num (i:=i) (by rw [Ci.upd_len];omega)
       have hf0:=hmem.s.frozen i
       generalize (Ci.upd (λi=>Ci.mixS f b (i / 4) (i%4) 4) b i).getD i 0=y0 at *
       generalize Ci.mixS f b c r 4=m4 at *
       have hset':=Lib.hid hset
       have hih:=Lib.hid hi
       have hmm:=Lib.hid hmem
       have hkh:=Lib.hid hold
       have hfh:=Lib.hid hfac
       clear hmem hold hfac hset hi hfi
       go_wp2
       go_roundw
       case rel =>
        refine ⟨r+1,by omega,by go_num,⟨?_,hmm.out.bel.setCell (aS _) _⟩,hkh.out.far (by simp;omega) _,hfh.out.far (by simp;omega) _⟩
        have e4:4*c+(r+1)=i+1:=by rw [<-hih.out];omega
        rw [e4,<-hset'.out]
        exact hmm.out.s.setNum i m4
       case measure=>simp [intOf];omega
    ·obtain rfl:r=4:=by omega
     have hmm:=Lib.hid hmem
     have hkh:=Lib.hid hold
     have hfh:=Lib.hid hfac
     clear hmem hold hfac
     go_wp2
     go_roundw
     case rel=>exact ⟨c+1,by omega,by go_num,by rw [show 4*(c+1)=4*c+4 from by omega];exact hmm.out,hkh.out,hfh.out⟩
     case measure=>simp [intOf];omega
  ·obtain rfl:c=4:=by omega
   go_wp2
   go_end0
   refine ⟨rfl,?_,hmem.bel⟩
   have:=hmem.s
   rw [Ci.upd_all _ _ _ (by omega),hbl] at this
   exact this
namespace Ci
def ks(L:List Nat)(k:Nat):List Nat:=(L.drop (k*16)).take 16
def encS(L b:List Nat):Nat->List Nat
 |0=>addK b (ks L 0)
 |k+1=>addK (if k+1<10 then mix [2,3,1,1] (rot 1 (each Gf.sub (encS L b k))) else rot 1 (each Gf.sub (encS L b k))) (ks L (k+1))
def enc(L b:List Nat):List Nat:=encS L b 10
theorem ks_len{L:List Nat}(hL:L.length=176)(k:Nat)(hk:k≤10):(ks L k).length=16:=by simp [ks];omega
theorem ks_byt{L:List Nat}(hL:Byt L)(k:Nat):Byt (ks L k):=λx hx=>hL x (List.mem_of_mem_drop (List.mem_of_mem_take hx))
theorem each_byt{s:Nat->Nat}(hs:∀a,s a<256)(b:List Nat):Byt (each s b):=xZ λ_ _=>hs _
theorem fac_byt:Byt [2,3,1,1]:=by intro x hx;simp at hx;omega
theorem encS_len(L b:List Nat):∀k,(encS L b k).length=16
 |0=>aM7 _ _
 |_+1=>aM7 _ _
theorem encS_byt{L b:List Nat}(hL:Byt L)(hb:Byt b):∀k,Byt (encS L b k)
 |0=>aMI hb (ks_byt hL 0)
 |k+1=>by
  refine aMI ?_ (ks_byt hL _)
  have h1:Byt (rot 1 (each Gf.sub (encS L b k))):=rot_byt (each_byt Gf.sub_lt _)
  split
  ·exact mix_byt fac_byt h1
  ·exact h1
end Ci
theorem aOz{l:List Nat}(h:l.length=16):∃a0 a1 a2 a3 a4 a5 a6 a7 a8 a9 a10 a11 a12 a13 a14 a15,l=[a0,a1,a2,a3,a4,a5,a6,a7,a8,a9,a10,a11,a12,a13,a14,a15] :=
 match l,h with
 |[a0,a1,a2,a3,a4,a5,a6,a7,a8,a9,a10,a11,a12,a13,a14,a15],_=>⟨a0,a1,a2,a3,a4,a5,a6,a7,a8,a9,a10,a11,a12,a13,a14,a15,rfl⟩
theorem a5K{b:List Nat}(h:b.length=16):Tryz.prog.built 382 [(0,.agg (va .u8 b))]=some (va .u8 b):=by
 obtain ⟨a0,a1,a2,a3,a4,a5,a6,a7,a8,a9,a10,a11,a12,a13,a14,a15,rfl⟩:=aOz h
 kernel_rfl
theorem aRE(w:World):(zeroValue 382).run Tryz.prog w=.ok (.agg (va .u8 eD)) w:=by kernel_rfl
theorem aSO{b:List Nat}(h:b.length=16):Array.foldl (λ(cs:Array Value) (x:Value×Nat)=>cs.setIfInBounds x.snd x.fst) (va .u8 eD) (va .u8 b).zipIdx 0 16=va .u8 b:=by
 obtain ⟨a0,a1,a2,a3,a4,a5,a6,a7,a8,a9,a10,a11,a12,a13,a14,a15,rfl⟩:=aOz h
 kernel_rfl
structure xD(G:Nat)(L b:List Nat)(w wr:World):Prop where
 k:aC wr G 304 (va .u8 L)
 r:aC wr (G+1+1) 26 (va .u8 eD)
 s:aC wr (G+1+1+1) 382 (va .u8 b)
 bel:Below G w wr
theorem xD.step{G:Nat}{L b b':List Nat}{w wr w2:World}(h:xD G L b w wr)(hs:k7 (G+1+1+1) b' wr w2):xD G L b' w w2 :=
 ⟨h.k.below hs.bel (by omega),h.r.below hs.bel (by omega),hs.s,h.bel.trans (hs.bel.mono (by omega))⟩
theorem xD.key{G:Nat}{L b:List Nat}{w wr:World}(h:xD G L b w wr)(k:Nat):wr.rangeAt G (k*16) (nv .u8 (Ci.ks L k)):=λj v hv=>h.k.part (k*16) 16 j v hv
theorem aYT(L b:List Nat)(hLl:L.length=176)(hbl:b.length=16)(hL:Ci.Byt L)(hb:Ci.Byt b)(w:World):
 Calls Tryz.prog 166 #[.agg (va .u8 L),.agg (va .u8 b)] w λe w'=>e=.returned (.agg (va .u8 (Ci.enc L b)))∧Below w.heap.size w w':=by
 have hsz0:(Tryz.prog.info? 26).map (·.size)=some (va .u8 b).size:=by rw [b9,hbl];kernel_rfl
 have hsz:=Lib.hid hsz0
 have hzv:=wJ
 have hzs:=aRE
 have hvs:(va .u8 b).size=16:=by rw [b9,hbl]
 have hfold:=aSO hbl
 have hmf:∀(fn:Fn) (first cap:Array Value) (w:World),(Instr.makeFunc fn first cap).run Tryz.prog w=.ok (.func fn first cap) w:=λ_ _ _ _=>rfl
 have hst:=tF (P:=Tryz.prog) (((w.alloc (.cells (va .u8 L) 304)).alloc (.cells (va .u8 b) 26)).alloc (.cells (va .u8 eD) 26)) 382 (va .u8 eD) .u8 b (by rw [b9,hbl,oB])
 rw [show (((w.alloc (.cells (va .u8 L) 304)).alloc (.cells (va .u8 b) 26)).alloc (.cells (va .u8 eD) 26)).heap.size=w.heap.size+1+1+1 from by simp] at hst
 have hm:xD w.heap.size L b w ((((w.alloc (.cells (va .u8 L) 304)).alloc (.cells (va .u8 b) 26)).alloc (.cells (va .u8 eD) 26)).alloc (.cells (va .u8 b) 382)):=by
  refine ⟨(((aC.new _ _ _).alloc _).alloc _).alloc _,?_,?_,((((Below.refl _ _).alloc (aS _) _).alloc (by simp) _).alloc (by simp<;>omega) _).alloc (by simp<;>omega) _⟩
  ·exact aC.alloc (by have:=aC.new ((w.alloc (.cells (va .u8 L) 304)).alloc (.cells (va .u8 b) 26)) 26 (va .u8 eD);simpa using this) _
  ·have:=aC.new (((w.alloc (.cells (va .u8 L) 304)).alloc (.cells (va .u8 b) 26)).alloc (.cells (va .u8 eD) 26)) 382 (va .u8 b)
   simpa using this
 have hmm:=Lib.hid hm
 clear hsz0 hm
 go_enter Tryz.func166,Tryz.ntmps166
 go_wp2_with (first
  |(refine wpList_load_row rfl 26 (.tmp 3) rfl (w.heap.size+1) rfl 26 (va .u8 b) (0,0) _ ?hq Tryz.underlying26 rfl hsz.out ?_
    case hq=>exact aC.alloc (by have:=aC.new (w.alloc (.cells (va .u8 L) 304)) 26 (va .u8 b);simpa using this) _)
  |(refine aAA rfl 382 _ rfl (va .u8 b) (a5K hbl) ?_)
  |(refine wpList_load_mid rfl 26 (.tmp 18) rfl w.heap.size 0 rfl (nv .u8 (Ci.ks L 0)) _ (hmm.out.key 0) Tryz.underlying26 rfl (by rw [aZ,Ci.ks_len hLl 0 (by omega)];kernel_rfl) ?_))
 refine (aHk (w.heap.size+1+1+1) b (Ci.ks L 0) hbl (Ci.ks_len hLl 0 (by omega)) hb (Ci.ks_byt hL 0) _ hmm.out.s).mono ?_
 rintro e w1 ⟨rfl,hs1⟩
 have hm1:=Lib.hid (hmm.out.step hs1)
 clear hs1 hst hfold hzs hzv hvs hmf hmm
 go_wp2
 go_loopw [10] (λs wr=>∃k:Nat,k≤10∧s=.int .i64 ((k:Int)+1)∧xD w.heap.size L (Ci.encS L b k) w wr) (λs _=>11-(intOf s).toNat)
 case atStart=>exact ⟨0,by omega,rfl,hm1.out⟩
 case round =>
  clear hm1
  obtain ⟨k,hk,rfl,hmem⟩:=hrel
  by_cases hlt:k<10
  ·have hltI:(k:Int)+1≤10:=by omega
   have hmm:=Lib.hid hmem
   clear hmem
   go_wp2_with fail
   refine (aOP (w.heap.size+1+1+1) (Ci.encS L b k) (Ci.encS_len L b k) (Ci.encS_byt hL hb k) _ hmm.out.s).mono ?_
   rintro e w2 ⟨rfl,hs2⟩
   have hm2:=Lib.hid (hmm.out.step hs2)
   clear hs2 hmm
   go_wp2_with fail
   refine (aWR (w.heap.size+1+1+1) (Ci.each Gf.sub (Ci.encS L b k)) (Ci.each_len _ _) (Ci.each_byt Gf.sub_lt _) _ hm2.out.s).mono ?_
   rintro e w3 ⟨rfl,hs3⟩
   have hm3:=Lib.hid (hm2.out.step hs3)
   clear hs3 hm2
   by_cases h10:k+1<10
   ·have h10I:(k:Int)+1<10:=by omega
    go_wp2_with fail
    refine (aUd (w.heap.size+1+1+1) [2,3,1,1] (Ci.rot 1 (Ci.each Gf.sub (Ci.encS L b k))) rfl (Ci.rot_len _ _) Ci.fac_byt (Ci.rot_byt (Ci.each_byt Gf.sub_lt _)) _ hm3.out.s).mono ?_
    rintro e w4 ⟨rfl,hs4⟩
    have hm4:=Lib.hid (hm3.out.step hs4)
    clear hs4 hm3
    go_wp2_with (refine wpList_load_mid rfl 26 (.tmp 36) rfl w.heap.size ((k+1)*16) rfl (nv .u8 (Ci.ks L (k+1))) _ (hm4.out.key (k+1)) Tryz.underlying26 rfl (by rw [aZ,Ci.ks_len hLl (k+1) (by omega)];kernel_rfl) ?_)
    refine (aHk (w.heap.size+1+1+1) (Ci.mix [2,3,1,1] (Ci.rot 1 (Ci.each Gf.sub (Ci.encS L b k)))) (Ci.ks L (k+1)) (Ci.mix_len _ _) (Ci.ks_len hLl (k+1) (by omega)) (Ci.mix_byt Ci.fac_byt (Ci.rot_byt (Ci.each_byt Gf.sub_lt _))) (Ci.ks_byt hL _) _ hm4.out.s).mono ?_
    rintro e w5 ⟨rfl,hs5⟩
    have hm5:=hm4.out.step hs5
    have he:Ci.addK (Ci.mix [2,3,1,1] (Ci.rot 1 (Ci.each Gf.sub (Ci.encS L b k)))) (Ci.ks L (k+1))=Ci.encS L b (k+1):=by
     show _=Ci.addK (if k+1<10 then _ else _) _
     rw [if_pos h10]
    rw [he] at hm5
    have hm6:=Lib.hid hm5
    clear hs5 hm4 hm5 he
    go_wp2
    go_roundw
    case rel=>exact ⟨k+1,by omega,by go_num,hm6.out⟩
    case measure=>simp [intOf];omega
   ·have h10I:10≤(k:Int)+1:=by omega
    go_wp2_with (refine wpList_load_mid rfl 26 (.tmp 36) rfl w.heap.size ((k+1)*16) rfl (nv .u8 (Ci.ks L (k+1))) _ (hm3.out.key (k+1)) Tryz.underlying26 rfl (by rw [aZ,Ci.ks_len hLl (k+1) (by omega)];kernel_rfl) ?_)
    refine (aHk (w.heap.size+1+1+1) (Ci.rot 1 (Ci.each Gf.sub (Ci.encS L b k))) (Ci.ks L (k+1)) (Ci.rot_len _ _) (Ci.ks_len hLl (k+1) (by omega)) (Ci.rot_byt (Ci.each_byt Gf.sub_lt _)) (Ci.ks_byt hL _) _ hm3.out.s).mono ?_
    rintro e w5 ⟨rfl,hs5⟩
    have hm5:=hm3.out.step hs5
    have he:Ci.addK (Ci.rot 1 (Ci.each Gf.sub (Ci.encS L b k))) (Ci.ks L (k+1))=Ci.encS L b (k+1):=by
     show _=Ci.addK (if k+1<10 then _ else _) _
     rw [if_neg h10]
    rw [he] at hm5
    have hm6:=Lib.hid hm5
    clear hs5 hm3 hm5 he
    go_wp2
    go_roundw
    case rel=>exact ⟨k+1,by omega,by go_num,hm6.out⟩
    case measure=>simp [intOf];omega
  ·obtain rfl:k=10:=by omega
   have hel:(Ci.encS L b 10).length=16:=Ci.encS_len L b 10
   have hsz0:(Tryz.prog.info? 26).map (·.size)=some (va .u8 (Ci.encS L b 10)).size:=by rw [b9,hel];kernel_rfl
   have hszE:=Lib.hid hsz0
   have hst:=mU (P:=Tryz.prog) hmem.r .u8 (Ci.encS L b 10) (by rw [b9,oB,hel])
   have hvs:(va .u8 (Ci.encS L b 10)).size=16:=by rw [b9,hel]
   have hmm:=Lib.hid hmem
   clear hsz0 hmem hel
   go_wp2_with (refine wpList_load_row rfl 26 (.tmp 39) rfl (w.heap.size+1+1+1) rfl 382 (va .u8 (Ci.encS L b 10)) (0,0) _ hmm.out.s Tryz.underlying26 rfl hszE.out ?_)
   exact bodyPost_ret (results_cell_row rfl _ _ (w.heap.size+1+1) 26 (va .u8 (Ci.encS L b 10)) (0,0) _ rfl (hmm.out.r.row _) Tryz.underlying26 rfl hszE.out) rfl ⟨rfl,eJ hmm.out.bel (by omega) _⟩
theorem aA.nlen(x:aA):x.nncB.length=12:=by simp [aA.nncB,Sh.beB]
theorem aA.nbyt(x:aA):Sh.Byt x.nncB:=M4 (Sh.beB_byt _ _) (Sh.beB_byt _ _)
theorem bD.blen(x:bD):x.bytes.length=(At.nodeB x).size:=by have:=At.len (.nodeB x);rwa [show (At.nodeB x).vals=nv .u8 x.bytes from rfl,aZ] at this
def iP:Rp SV->Option cD
 | .nil=>some ⟨[],0,rfl,λx hx=>by cases hx⟩
 | .one (.v (.int .u8 (.ofNat k)))=>match h:Nat.blt k 256 with
  |true=>some ⟨[k],1,rfl,λy hy=>by rw [bO,bR] at h;rw [iY] at hy;omega⟩
  |false=>none
 | .one _=>none
 | .arr .u8 n l=>match h:Nat.beq l.length n&&vT l with
  |true=>some ⟨l,n,by rw [bJ,bE,bR] at h;exact h.1,by rw [bJ] at h;exact V0 h.2⟩
  |false=>none
 | .arr _ _ _=>none
 | .q (.rcdB x)=>some ⟨x.bytes,45,x.blen,x.byt⟩
 | .q (.entB x)=>some ⟨x.bytes,33,x.blen,x.byt⟩
 | .q (.nncB x)=>some ⟨x.nncB,12,x.nlen,x.nbyt⟩
 | .q (.nodeB x)=>some ⟨x.bytes,_,x.blen,x.byt⟩
 | .q (.tag x)=>some ⟨x.tag,32,x.ht,x.hb⟩
 | .q (.dig x)=>some ⟨x.dig,32,x.ht,x.hb⟩
 | .q (.sha l)=>some ⟨Sh.shaF l,32,pS l,rK l⟩
 | .q (.byt x)=>some x
 | .q _=>none
 | .node _ _ a b=>match iP a,iP b with
  |some x,some y=>some ⟨x.l++y.l,x.n+y.n,by rw [eS,x.hl,y.hl],M4 x.hb y.hb⟩
  |_,_=>none
theorem nP{r:List aF}{c:Rp SV}:∀{x:cD} {us:List Value},iP c=some x->aD r c us->us=nv .u8 x.l:=by
 induction c with
 |nil=>intro x us h d;cases h;cases d;rfl
 |one y =>
  intro x us h d
  unfold iP at h
  split at h<;>try (rename_i e;cases e)
  ·split at h
   ·cases h;exact bQ d
   ·cases h
  ·cases h
 |arr k n m =>
  intro x us h d
  unfold iP at h
  split at h<;>try (rename_i e;cases e)
  ·split at h
   ·cases h;exact fJ d
   ·cases h
  ·cases h
 |q a =>
  intro x us h d
  cases d
  cases a with
  |rcdB x=>cases h;rfl
  |entB x=>cases h;rfl
  |nncB x=>cases h;rfl
  |nodeB x=>cases h;rfl
  |tag x=>cases h;rfl
  |dig x=>cases h;rfl
  |sha l=>cases h;rfl
  |byt x=>cases h;rfl
  |_=>cases h
 |node s t a b iha ihb =>
  intro x us h d
  unfold iP at h
  split at h
  ·rename_i x y ha hb
   cases h
   cases d with
   |node d1 d2 _ _ =>
    rw [iha ha d1,ihb hb d2]
    exact wZ _ _ _
  ·cases h
def zK(hp:Tr):SV->Option cD
 | .s n o l c=>bif Nat.ble l c then (match jH hp 1 (.s n o l c) with
  |some (_,cs)=>iP cs
  |none=>none) else none
 | .w n l=>(match jH hp 1 (.w n l) with
  |some (_,cs)=>iP cs
  |none=>none)
 | .v (.slice none 0 _)=>some ⟨[],0,rfl,λx hx=>by cases hx⟩
 |_=>none
section
variable {E:bX}{r:List aF}{hp:Tr}{nx:Nat}{w:World}
theorem Z4(hm:aG E r hp nx w){x:SV}{v:Value}{b:cD}(h:zK hp x=some b)(d:aP r x v):∃A c,v=.slice A b.n c∧b.n≤c∧bH w w.heap.size 1 A b.n (nv .u8 b.l):=by
 have key:∀{y:SV} {m:Nat} {cs:Rp SV},aP r y v->jH hp 1 y=some (m,cs)->iP cs=some b->∃A c,v=.slice A m c∧bH w w.heap.size 1 A m (nv .u8 b.l)∧b.n=m:=by
  intro y m cs dy hs hb
  obtain ⟨A,c,zs,e,hd,hl,hr⟩:=uX hm dy hs
  obtain rfl:=nP hb hd
  exact ⟨A,c,e,hr,by rw [aZ,b.hl] at hl;omega⟩
 unfold zK at h
 split at h
 ·rename_i n o m c
  cases hq:Nat.ble m c with
  |false=>rw [hq] at h;cases h
  |true =>
   rw [hq] at h
   simp only [cond_true] at h
   split at h
   ·rename_i m' cs hs
    obtain ⟨A,c',e,h1,h2⟩:=key d hs h
    cases d
    cases e
    rw [h2]
    exact ⟨_,_,rfl,Nat.le_of_ble_eq_true hq,h1⟩
   ·cases h
 ·rename_i n m
  split at h
  ·rename_i m' cs hs
   obtain ⟨A,c',e,h1,h2⟩:=key d hs h
   cases d with
   |w hL hl=>cases e;rw [h2];exact ⟨_,_,rfl,hl,h1⟩
  ·cases h
 ·cases h
  cases d
  exact ⟨none,_,rfl,Nat.zero_le _,⟨rfl,λh=>absurd h (by show ¬ 0<0;omega)⟩⟩
 ·cases h
end
theorem X7{l h r:List Nat}(s:fZ l h r)(x:cD)(hx:x.l=l):(bW true h r l.length)=x.st.toArray:=by
 unfold cD.st bW
 rw [hx,s.v,s.h,<-x.hl,hx]
theorem aLA(x:cD):fZ x.l (Sh.hs x.l (x.n / 64)) (qU x.l):=by
 have key:∀(n:Nat) (l:List Nat),l.length=n->Sh.Byt l->∃h r,fZ l h r:=by
  intro n
  induction n with
  |zero=>intro l hl _;obtain rfl:=mJ hl;exact ⟨_,_,aEj⟩
  |succ n ih =>
   intro l hl hb
   have hne:l≠[]:=by intro e;subst e;simp at hl
   have e:=List.dropLast_concat_getLast hne
   obtain ⟨h,r,s⟩:=ih l.dropLast (by simp [hl]) (λx hx=>hb x ((List.dropLast_sublist l).subset hx))
   have hx:Sh.Byt [l.getLast hne]:=λy hy=>by rw [iY] at hy;rw [hy];exact hb _ (List.getLast_mem hne)
   by_cases hq:l.dropLast.length%64+1=64
   ·have:=s.full [l.getLast hne] hx hq;rw [e] at this;exact ⟨_,_,this⟩
   ·have:=s.more [l.getLast hne] hx (by simp only [List.length_singleton];omega);rw [e] at this;exact ⟨_,_,this⟩
 obtain ⟨h,r,s⟩:=key x.l.length x.l rfl x.hb
 have e1:=s.h
 have e2:=s.v
 rw [x.hl] at e1
 rw [<-e1,<-e2]
 exact s
def cD.nil:cD:=⟨[],0,rfl,λx hx=>by cases hx⟩
def aHt(args:List SV):Option SV:=match args with
 |[]=>some (.a (.q (.st .nil)))
 |_=>none
theorem a2R:bN Xt 11 (cU aHt):=jY (bB (by kernel_rfl)) λargs y hf r vals w hd hg=>by
 unfold aHt at hf
 split at hf
 ·cases hf
  cases hd
  refine (aNL w (M0 hg)).mono ?_
  rintro e w' ⟨rfl,h2⟩
  refine ⟨_,rfl,?_,h2⟩
  have e:bW true Sh.hL dX 0=cD.nil.st.toArray:=X7 aEj .nil rfl
  rw [e]
  exact .a (.q (.st .nil))
 ·cases hf
def cD.app(x y:cD):cD:=⟨x.l++y.l,x.n+y.n,by rw [eS,x.hl,y.hl],M4 x.hb y.hb⟩
def aDl:bV:=λargs hp nx=>match args with
 |[.a (.q (.st x)),s]=>(match zK hp s with
  |some y=>bif Nat.blt (x.n+y.n) 4611686018427387904 then some (.a (.q (.st (x.app y))),⟨⟨.e,0⟩,hp,nx⟩) else none
  |none=>none)
 |_=>none
theorem aTK:bN Xt 12 aDl:=by
 intro args hp nx res st hl E r vals w hE ha hm
 have hen:fQ Xt.P 12:=bB (by kernel_rfl)
 unfold aDl at hl
 split at hl
 ·rename_i x s
  split at hl
  ·rename_i y hy
   cases hq:Nat.blt (x.n+y.n) 4611686018427387904 with
   |false=>rw [hq] at hl;cases hl
   |true =>
    rw [hq] at hl;cases hl
    rw [bO,bR] at hq
    cases ha with
    |cons d1 t=>cases t with
     |cons d2 t =>
      cases t
      obtain ⟨A,c,rfl,hc,hr⟩:=Z4 hm hy d2
      cases d1 with
      |a d1 =>
       cases d1
       have hg:cG Xt w:=hE▸hm.globs
       have sx:=aLA x
       have:=aEq x.l _ _ y.l A y.n c w.heap.size sx y.hb hc (by rw [x.hl];omega) w (M0 hg) hr (aS _)
       rw [X7 sx x rfl] at this
       refine ⟨λw'=>hen _ w',this.mono ?_⟩
       rintro e w' ⟨h',r',rfl,h2,h3⟩
       refine ⟨[],_,rfl,.a ?_,by simpa using hm.grow h3⟩
       have e2:=X7 h2 (x.app y) rfl
       have e3:jO true h' r' (x.l++y.l).length=(x.app y).st:=by
        have:=congrArg Array.toList e2
        simpa [bW] using this
       show aD (r++[]) (.q (.st (x.app y))) (jO true h' r' (x.l++y.l).length)
       rw [e3]
       exact .q (.st (x.app y))
  ·cases hl
 ·cases hl
def aCT(args:List SV):Option SV:=match args with
 |[.a (.q (.st x))]=>bif Nat.blt x.n 1152921504606846976 then some (.a (.q (.sha x.l))) else none
 |_=>none
theorem aVS:bN Xt 13 (cU aCT):=jY (bB (by kernel_rfl)) λargs y hf r vals w hd hg=>by
 unfold aCT at hf
 split at hf
 ·rename_i x
  cases hq:Nat.blt x.n 1152921504606846976 with
  |false=>rw [hq] at hf;cases hf
  |true =>
   rw [hq] at hf;cases hf
   rw [bO,bR] at hq
   cases hd with
   |cons d t =>
    cases t
    cases d with
    |a d =>
     cases d
     have sx:=aLA x
     have:=aJU x.l _ _ sx (by rw [x.hl];exact hq) w (M0 hg)
     rw [X7 sx x rfl] at this
     refine this.mono ?_
     rintro e w' ⟨rfl,h2⟩
     refine ⟨_,rfl,.a ?_,h2⟩
     rw [<-Sh.shaF_eq]
     exact .q (.sha x.l)
 ·cases hf
def cD.xor(x y:cD):cD:=⟨Sh.xorB x.l y.l,x.n,by rw [Sh.xorB_len,x.hl],Sh.xorB_byt _ _ x.hb y.hb⟩
def aF5:bV:=λargs hp nx=>match args with
 |[a,b]=>(match zK hp a,zK hp b with
  |some x,some y=>bif Nat.beq x.n y.n&&(Nat.blt 0 x.n&&Nat.blt x.n 281474976710656) then some (.t [.s nx 0 x.n x.n,bM],⟨⟨.e,0⟩,hp.put nx ⟨5,.q (.byt (x.xor y)),0⟩,nx+1⟩) else none
  |_,_=>none)
 |_=>none
theorem aU7:bN Xt 169 aF5:=by
 intro args hp nx res st hl E r vals w hE ha hm
 have hen:fQ Xt.P 169:=bB (by kernel_rfl)
 unfold aF5 at hl
 split at hl
 ·split at hl
  ·rename_i a b x y hx hy
   cases hq:Nat.beq x.n y.n&&(Nat.blt 0 x.n&&Nat.blt x.n 281474976710656) with
   |false=>rw [hq] at hl;cases hl
   |true =>
    rw [hq] at hl;cases hl
    rw [bJ,bJ,bE,bO,bO,bR,bR,bR] at hq
    obtain ⟨hn,h0,h63⟩:=hq
    cases ha with
    |cons d1 t=>cases t with
     |cons d2 t =>
      cases t
      obtain ⟨A,c,rfl,hc,hr⟩:=Z4 hm hx d1
      obtain ⟨A2,c2,rfl,hc2,hr2⟩:=Z4 hm hy d2
      rw [<-hn] at hr2 ⊢
      refine ⟨λw'=>hen _ w',(aYa x.l y.l A A2 x.n c c2 w.heap.size x.hb y.hb h63 w hr hr2 (aS _)).mono ?_⟩
      rintro e w' ⟨p,rfl,h1,h2,h3⟩
      have nm:(r++[(⟨p,0,0,none,λ_=>False⟩:aF)])[nx]?=some ⟨p,0,0,none,λ_=>False⟩:=by rw [<-hm.len];simp
      refine ⟨[⟨p,0,0,none,λ_=>False⟩],_,rfl,.t (.cons (aP.s (o:=0) nm) (.cons (.v _) .nil)),?_⟩
      exact hm.add1 h3 ⟨p,0,0,none,λ_=>False⟩ ⟨5,.q (.byt (x.xor y)),0⟩ h2 ⟨nv .u8 (x.xor y).l,.q (.byt (x.xor y)),.inl ⟨rfl,bI hm.below.size h2,rfl,h1⟩⟩ (.inl (by show 0<2;decide))
  ·cases hl
 ·cases hl
def aEN(args:List SV):Option SV:=match args with
 |[.a s,.a b]=>(match iP s,iP b with
  |some x,some y=>match _h:Nat.beq x.n 176&&Nat.beq y.n 16 with
   |true=>some (.a (.q (.byt ⟨Ci.enc x.l y.l,16,Ci.encS_len _ _ _,Ci.encS_byt x.hb y.hb _⟩)))
   |false=>none
  |_,_=>none)
 |_=>none
theorem a4I:bN Xt 166 (cU aEN):=jY (bB (by kernel_rfl)) λargs y hf r vals w hd hg=>by
 unfold aEN at hf
 split at hf
 ·split at hf
  ·rename_i s b x y hx hy
   split at hf
   ·rename_i hq
    cases hf
    rw [bJ,bE,bE,bR,bR] at hq
    cases hd with
    |cons d1 t=>cases t with
     |cons d2 t =>
      cases t
      cases d1 with
      |a d1=>cases d2 with
       |a d2 =>
        obtain rfl:=nP hx d1
        obtain rfl:=nP hy d2
        refine (aYT x.l y.l (by rw [x.hl,hq.1]) (by rw [y.hl,hq.2]) x.hb y.hb w).mono ?_
        rintro e w' ⟨rfl,h2⟩
        exact ⟨_,rfl,.a (.q (.byt ⟨Ci.enc x.l y.l,16,Ci.encS_len _ _ _,Ci.encS_byt x.hb y.hb _⟩)),h2⟩
   ·cases hf
  ·cases hf
 ·cases hf
def aFV(args:List SV):Option (TypeId×Rp SV×Nat×Nat×Option (List SV)):=match args with
 |[.a (.q (.nnc x))]=>some (5,.q (.nncB x),12,12,none)
 |[.a c]=>(match tC c [] with
  |[.one (.v (.int .u32 (.ofNat sh))),.one (.v (.int .u64 (.ofNat k)))]=>bif Nat.blt sh 4294967296 then some (5,.arr .u8 12 (Sh.beB sh 4++Sh.beB k 8),12,12,none) else none
  |_=>none)
 |_=>none
theorem aP6:bN Xt 22 (kY aFV):=xN (bB (by kernel_rfl)) λargs T cs l c zs hf r vals w hd hg=>by
 unfold aFV at hf
 split at hf
 ·rename_i x
  cases hf
  cases hd with
  |cons d t =>
   cases t
   cases d with
   |a d =>
    cases d
    refine ⟨_,none,.q _,rfl,(aGL x.sh x.c x.hsh w).mono ?_⟩
    rintro e w' ⟨p,rfl,h1,h2,h3⟩
    exact ⟨p,rfl,h2,h1,h3⟩
 ·split at hf
  ·rename_i c0 _ _ sh k hfl
   cases hq:Nat.blt sh 4294967296 with
   |false=>rw [hq] at hf;cases hf
   |true =>
    rw [hq] at hf;cases hf
    rw [bO,bR] at hq
    obtain ⟨us,rfl,d⟩:=vI hd
    have hF:=F3 _ d .nil
    rw [eC,hfl] at hF
    cases hF with
    |cons d1 t=>cases t with
     |cons d2 t =>
      cases t
      obtain rfl:=bQ d1
      obtain rfl:=bQ d2
      refine ⟨_,none,.arr (by simp [Sh.beB_len]),rfl,(aGL sh k hq w).mono ?_⟩
      rintro e w' ⟨p,rfl,h1,h2,h3⟩
      exact ⟨p,rfl,h2,h1,h3⟩
  ·cases hf
 ·cases hf
def aIX:List (FuncId×bV):=[(11,cU aHt),(12,aDl),(13,cU aCT),(169,aF5),(166,cU aEN),(22,kY aFV)]++aMJ
theorem a6r:∀p∈aIX,bN Xt p.1 p.2:=by
 intro p hp
 rcases eL.1 hp with hp|hp
 ·simp only [bG,cK,or_false] at hp
  rcases hp with rfl|rfl|rfl|rfl|rfl|rfl
  ·exact a2R
  ·exact aTK
  ·exact aVS
  ·exact aU7
  ·exact a4I
  ·exact aP6
 ·exact a9u p hp
def fF:List Nat:=List.replicate 176 0
theorem nL:fF.length=176:=lR ..
theorem bDz(w:World):(zeroValue 456).run Tryz.prog w=.ok (.agg (va .u8 fF)) w:=by kernel_rfl
end Go.Proofs.YtjboelhcieepkaaGreatDoor
namespace Go.Proofs.YtjboelhcieepkaaGreatDoor.Ci
def tw(b:List Nat)(K j:Nat):Nat:=Gf.sub (b.getD (12+(j+1)%4) 0) ^^^ (if j=0 then Gf.pw 2 K else 0)
def col(b:List Nat)(K j:Nat):Nat->Nat
 |0=>tw b K j ^^^ b.getD j 0
 |q+1=>col b K j q ^^^ b.getD (4*(q+1)+j) 0
def rowE(key:List Nat):Nat->List Nat
 |0=>key
 |K+1=>(List.range 16).map λi=>col (rowE key K) K (i%4) (i / 4)
def exF(key:List Nat)(n:Nat):Nat:=(rowE key (n / 16)).getD (n%16) 0
def exL(key:List Nat):List Nat:=(List.range 176).map (exF key)
def wd(b:List Nat)(K i:Nat):List Nat:=(List.range 4).map λj=>match (i+3-j) / 4 with
 |0=>tw b K j
 |q+1=>col b K j q
theorem wd_step(b:List Nat)(K:Nat):∀i,i<16->(wd b K i).set (i%4) (col b K (i%4) (i / 4))=wd b K (i+1)∧(wd b K i).getD (i%4) 0 ^^^ b.getD i 0=col b K (i%4) (i / 4)
 |0,_=>⟨rfl,rfl⟩
 |1,_=>⟨rfl,rfl⟩
 |2,_=>⟨rfl,rfl⟩
 |3,_=>⟨rfl,rfl⟩
 |4,_=>⟨rfl,rfl⟩
 |5,_=>⟨rfl,rfl⟩
 |6,_=>⟨rfl,rfl⟩
 |7,_=>⟨rfl,rfl⟩
 |8,_=>⟨rfl,rfl⟩
 |9,_=>⟨rfl,rfl⟩
 |10,_=>⟨rfl,rfl⟩
 |11,_=>⟨rfl,rfl⟩
 |12,_=>⟨rfl,rfl⟩
 |13,_=>⟨rfl,rfl⟩
 |14,_=>⟨rfl,rfl⟩
 |15,_=>⟨rfl,rfl⟩
 |n+16,h=>by omega
theorem wd_zero(b:List Nat)(K:Nat):wd b K 0=[Gf.sub (b.getD 13 0) ^^^ Gf.pw 2 K,Gf.sub (b.getD 14 0),Gf.sub (b.getD 15 0),Gf.sub (b.getD 12 0)]:=by
 show [_,Gf.sub (b.getD 14 0) ^^^ 0,Gf.sub (b.getD 15 0) ^^^ 0,Gf.sub (b.getD 12 0) ^^^ 0]=_
 simp only [Nat.xor_zero]
 rfl
theorem wd_len(b:List Nat)(K i:Nat):(wd b K i).length=4:=by simp [wd]
theorem aHM(b:List Nat)(K j:Nat):tw b K j<256:=by
 unfold tw
 refine gD (n:=8) (Gf.sub_lt _) ?_
 split
 ·exact Gf.pw_lt 2 K (by omega)
 ·omega
theorem aGR{b:List Nat}(hb:Byt b)(K j:Nat):∀q,col b K j q<256
 |0=>gD (n:=8) (aHM b K j) (hb.get _)
 |q+1=>gD (n:=8) (aGR hb K j q) (hb.get _)
theorem wd_byt{b:List Nat}(hb:Byt b)(K i:Nat):Byt (wd b K i):=xZ λj _=>by
 split
 ·exact aHM b K j
 ·exact aGR hb K j _
theorem rowE_len{key:List Nat}(h:key.length=16):∀K,(rowE key K).length=16
 |0=>h
 |_+1=>by simp [rowE]
theorem rowE_byt{key:List Nat}(h:Byt key):∀K,Byt (rowE key K)
 |0=>h
 |K+1=>xZ λ_ _=>aGR (rowE_byt h K) _ _ _
theorem D7(key:List Nat)(K i:Nat)(hi:i<16):exF key (16*K+i)=(rowE key K).getD i 0:=by
 unfold exF
 rw [show (16*K+i) / 16=K from by omega,show (16*K+i)%16=i from by omega]
theorem exF_next(key:List Nat)(K i:Nat)(hi:i<16):exF key (16*(K+1)+i)=col (rowE key K) K (i%4) (i / 4):=by
 rw [D7 key (K+1) i hi]
 simp [rowE,hi]
theorem exL_len(key:List Nat):(exL key).length=176:=by simp [exL]
theorem exF_lt{key:List Nat}(h:Byt key)(n:Nat):exF key n<256:=(rowE_byt h _).get _
theorem exL_byt{key:List Nat}(h:Byt key):Byt (exL key):=xZ λn _=>exF_lt h n
theorem upd_row(key z:List Nat)(hz:z.length=176)(hk:key.length=16)(K n:Nat)(hn:16*(K+1)≤n)(hn2:n≤176):((upd (exF key) z n).drop (K*16)).take 16=rowE key K:=by
 apply List.ext_getElem
 ·simp [upd_len,hz,rowE_len hk];omega
 ·intro i h1 h2
  have hi:i<16:=by rw [rowE_len hk] at h2;exact h2
  have e:=upd_get (exF key) z n (K*16+i) (by omega)
  rw [if_pos (by omega),show K*16+i=16*K+i from by omega,D7 key K i hi] at e
  rw [List.getElem_take,List.getElem_drop]
  have h3:K*16+i<(upd (exF key) z n).length:=by rw [upd_len];omega
  simp only [cP,eZ h2] at e
  rw [show 16*K+i=K*16+i from by omega,eZ h3] at e
  simpa using e
theorem upd_first(key z:List Nat)(hz:z.length=176)(hk:key.length=16):key++z.drop 16=upd (exF key) z 16:=by
 apply List.ext_getElem
 ·simp [upd_len,hz,hk]
 ·intro i h1 h2
  have hi:i<176:=by rw [upd_len] at h2;omega
  simp only [upd,List.getElem_map,List.getElem_range]
  rw [List.getElem_append]
  split
  ·rename_i h
   rw [if_pos (by omega)]
   have e:=D7 key 0 i (by omega)
   simp only [Nat.mul_zero,Nat.zero_add] at e
   rw [e]
   show _=key.getD i 0
   simp [h]
  ·rename_i h
   rw [if_neg (by omega)]
   rw [List.getElem_drop]
   simp [hk,show 16+(i-16)=i from by omega,show i<z.length from by omega]
theorem exL_all(key z:List Nat)(hz:z.length=176):upd (exF key) z 176=exL key:=by
 rw [upd_all _ _ _ (by omega),hz];rfl
def pv(key:List Nat)(i j:Nat):Nat:=exF key (4*(i-1)+j)
def pvL(key:List Nat)(i:Nat):List Nat:=[pv key i 0,pv key i 1,pv key i 2,pv key i 3]
def tWord(key:List Nat)(i:Nat):List Nat:=if i%4=0 then [Gf.sub (pv key i 1) ^^^ Gf.pw 2 ((i-1) / 4),Gf.sub (pv key i 2),Gf.sub (pv key i 3),Gf.sub (pv key i 0)] else pvL key i
theorem tWord_len(key:List Nat)(i:Nat):(tWord key i).length=4:=by unfold tWord;split<;>rfl
theorem pv_lt{key:List Nat}(h:Byt key)(i j:Nat):pv key i j<256:=exF_lt h _
theorem tWord_byt{key:List Nat}(h:Byt key)(i:Nat):Byt (tWord key i):=by
 have p:=pv_lt h i
 intro x hx
 unfold tWord at hx
 split at hx
 ·simp only [bG,cK,or_false] at hx
  rcases hx with rfl|rfl|rfl|rfl
  ·exact gD (n:=8) (Gf.sub_lt _) (Gf.pw_lt 2 _ (by omega))
  all_goals exact Gf.sub_lt _
 ·simp only [pvL,bG,cK,or_false] at hx
  rcases hx with rfl|rfl|rfl|rfl
  all_goals exact p _
theorem aAL(key:List Nat)(K j:Nat)(hj:j<4):pv key (4*(K+1)) j=(rowE key K).getD (12+j) 0:=by
 unfold pv
 rw [show 4*(4*(K+1)-1)+j=16*K+(12+j) from by omega]
 exact D7 key K _ (by omega)
theorem aBx(key:List Nat)(K q j:Nat)(hq:q<3)(hj:j<4):pv key (4*(K+1)+(q+1)) j=col (rowE key K) K j q:=by
 unfold pv
 rw [show 4*(4*(K+1)+(q+1)-1)+j=16*(K+1)+(4*q+j) from by omega]
 rw [exF_next key K _ (by omega),show (4*q+j)%4=j from by omega,show (4*q+j) / 4=q from by omega]
theorem word_next(key:List Nat)(i k:Nat)(h4:4≤i)(hk:k<4):exF key (4*(i-4)+k) ^^^ (tWord key i).getD k 0=exF key (4*i+k):=by
 obtain ⟨K,q,hq,rfl⟩:∃K q,q<4∧i=4*(K+1)+q:=⟨i / 4-1,i%4,by omega,by omega⟩
 rw [show 4*(4*(K+1)+q-4)+k=16*K+(4*q+k) from by omega,D7 key K _ (by omega)]
 rw [show 4*(4*(K+1)+q)+k=16*(K+1)+(4*q+k) from by omega,exF_next key K _ (by omega)]
 rw [show (4*q+k)%4=k from by omega,show (4*q+k) / 4=q from by omega]
 rcases q with _|q
 ·unfold tWord
  rw [if_pos (by omega)]
  simp only [Nat.add_zero]
  rw [aAL key K 0 (by omega),aAL key K 1 (by omega),aAL key K 2 (by omega),aAL key K 3 (by omega),show (4*(K+1)-1) / 4=K from by omega]
  simp only [col,Nat.mul_zero,Nat.zero_add]
  rw [Nat.xor_comm]
  refine congrArg (· ^^^ _) ?_
  rcases k with _|_|_|_|k
  ·simp [tw]
  ·simp [tw]
  ·simp [tw]
  ·simp [tw]
  ·omega
 ·unfold tWord
  rw [if_neg (by omega)]
  simp only [pvL]
  rw [aBx key K q 0 (by omega) (by omega),aBx key K q 1 (by omega) (by omega),aBx key K q 2 (by omega) (by omega),aBx key K q 3 (by omega) (by omega)]
  simp only [col]
  rw [Nat.xor_comm]
  refine congrArg (· ^^^ _) ?_
  rcases k with _|_|_|_|k
  ·rfl
  ·rfl
  ·rfl
  ·rfl
  ·omega
theorem word_key{key:List Nat}(i k:Nat)(hi:i<4)(hk:k<4):exF key (4*i+k)=key.getD (4*i+k) 0:=by
 have e:=D7 key 0 (4*i+k) (by omega)
 rw [show 16*0+(4*i+k)=4*i+k from by omega] at e
 exact e
theorem pvL_part(key z:List Nat)(n i:Nat)(h1:1≤i)(hn:4*i≤n)(hz:4*i≤z.length):((upd (exF key) z n).drop ((i-1)*4)).take 4=pvL key i:=by
 apply List.ext_getElem
 ·simp [upd_len,pvL];omega
 ·intro j h1' h2
  have hj:j<4:=h2
  rw [List.getElem_take,List.getElem_drop]
  have e:=upd_get (exF key) z n ((i-1)*4+j) (by omega)
  rw [if_pos (by omega)] at e
  have h3:(i-1)*4+j<(upd (exF key) z n).length:=by rw [upd_len];omega
  rw [cP,eZ h3] at e
  simp only [Option.getD_some] at e
  rw [e,show (i-1)*4+j=4*(i-1)+j from by omega]
  rcases j with _|_|_|_|j
  ·rfl
  ·rfl
  ·rfl
  ·rfl
  ·omega
theorem pow_keep(i:Nat)(h:i%4≠0):(i-1) / 4=(i+1-1) / 4:=by omega
theorem pow_next(i:Nat)(h:i%4=0)(h4:4≤i):Gf.gm (Gf.pw 2 ((i-1) / 4)) 2=Gf.pw 2 ((i+1-1) / 4):=by
 rw [show (i+1-1) / 4=(i-1) / 4+1 from by omega]
 rfl
end Go.Proofs.YtjboelhcieepkaaGreatDoor.Ci
namespace Go.Proofs.YtjboelhcieepkaaGreatDoor
open Go.RowKit
def z4:List Nat:=List.replicate 4 0
theorem aKg:z4.length=4:=rfl
theorem aL9(w:World):(zeroValue 378).run Tryz.prog w=.ok (.agg (va .u8 z4)) w:=by kernel_rfl
theorem lU{w:World}{N:Nat}{t:TypeId}{a b c d:Value}(h:aC w N t #[a,b,c,d]):w.cell? ⟨N,0,none⟩=some a∧w.cell? ⟨N,1,none⟩=some b∧w.cell? ⟨N,2,none⟩=some c∧w.cell? ⟨N,3,none⟩=some d :=
 ⟨h.cell 0,h.cell 1,h.cell 2,h.cell 3⟩
theorem mD{w:World}{g:Nat}{t:TypeId}{cs:Array Value}(h:aC w g t cs):
 w.frozen? ⟨g,0,none⟩=false∧w.frozen? ⟨g,1,none⟩=false∧w.frozen? ⟨g,2,none⟩=false∧w.frozen? ⟨g,3,none⟩=false :=
 ⟨h.frozen 0,h.frozen 1,h.frozen 2,h.frozen 3⟩
theorem a3W(w:World):(zeroValue 304).run Tryz.prog w=.ok (.agg (va .u8 fF)) w:=by kernel_rfl
theorem bCW{P:Program}{w:World}{g:Nat}{t:TypeId}{cur:Array Value}(h:aC w g t cur)(o:Nat)(k:IntKind)(l:List Nat)(hf:o+l.length≤cur.size):
 (storeCells ⟨g,o,none⟩ (va k l).toList).run P w=.ok () (w.setRow g (cur.toList.take o++(nv k l++cur.toList.drop (o+(nv k l).length))).toArray):=by
 have e:=run_storeCells_at (P:=P) g o t (va k l).toList 0 cur w h (by simp [b9];omega) (λv hv=>gN k l v (by simpa [va] using hv))
 simpa [va] using e
theorem bEw(g:Nat)(W:World):(Instr.arrayAt 378 (.slice (some ⟨g,12,none⟩) 4 4)).run Tryz.prog W=.ok (.pointer (some ⟨g,12,none⟩)) W:=by kernel_rfl
theorem a6v{w0 wa wb:World}{g:Nat}{v0 v1 v2 v3:Value}(hg:g<w0.heap.size)(hb:Below w0.heap.size w0 wa)(h0:wa.cell? ⟨g,0,none⟩=some v0)(h1:wa.cell? ⟨g,1,none⟩=some v1)(h2:wa.cell? ⟨g,2,none⟩=some v2)(h3:wa.cell? ⟨g,3,none⟩=some v3)(b:Below wa.heap.size wa wb):
 Below w0.heap.size w0 wb∧wb.cell? ⟨g,0,none⟩=some v0∧wb.cell? ⟨g,1,none⟩=some v1∧wb.cell? ⟨g,2,none⟩=some v2∧wb.cell? ⟨g,3,none⟩=some v3:=by
 have hs:=hb.size
 exact ⟨hb.trans (b.mono hs),(b.cell (p:=⟨g,0,none⟩) (by simp;omega)).trans h0,(b.cell (p:=⟨g,1,none⟩) (by simp;omega)).trans h1,(b.cell (p:=⟨g,2,none⟩) (by simp;omega)).trans h2,(b.cell (p:=⟨g,3,none⟩) (by simp;omega)).trans h3⟩
def Sx(a:World)(g:Nat)(v0 v1 v2 v3:Value)(w:World):Prop :=
 Below a.heap.size a w∧w.cell? ⟨g,0,none⟩=some v0∧w.cell? ⟨g,1,none⟩=some v1∧w.cell? ⟨g,2,none⟩=some v2∧w.cell? ⟨g,3,none⟩=some v3
theorem xV{a w:World}{g:Nat}{v0 v1 v2 v3:Value}{o:Obj}(hg:g<a.heap.size)(h:Sx a g v0 v1 v2 v3 w):Sx a g v0 v1 v2 v3 (w.alloc o):=by
 obtain ⟨hb,h0,h1,h2,h3⟩:=h
 have hs:=hb.size
 exact ⟨hb.alloc hs o,(World.cell?_alloc_lt w o _ (by simp;omega)).trans h0,(World.cell?_alloc_lt w o _ (by simp;omega)).trans h1,(World.cell?_alloc_lt w o _ (by simp;omega)).trans h2,(World.cell?_alloc_lt w o _ (by simp;omega)).trans h3⟩
theorem F9{a w:World}{g:Nat}{v0 v1 v2 v3:Value}{o:Obj}(hg:g<a.heap.size)(h:Sx a g v0 v1 v2 v3 w.drew):Sx a g v0 v1 v2 v3 (w.alloc o).drew:=xV (w:=w.drew) (o:=o) hg h
theorem aBw{a w:World}{g N i:Nat}{v0 v1 v2 v3 u:Value}(hg:g<a.heap.size)(hN:a.heap.size≤N)(h:Sx a g v0 v1 v2 v3 w):Sx a g v0 v1 v2 v3 (w.setCell ⟨N,i,none⟩ u):=by
 obtain ⟨hb,h0,h1,h2,h3⟩:=h
 exact ⟨hb.setCell hN u,(z6 (by omega)).trans h0,(z6 (by omega)).trans h1,(z6 (by omega)).trans h2,(z6 (by omega)).trans h3⟩
theorem i4{a w w':World}{g:Nat}{v0 v1 v2 v3:Value}(hg:g<a.heap.size)(h:Sx a g v0 v1 v2 v3 w)(b:Below w.heap.size w w'):Sx a g v0 v1 v2 v3 w':=a6v hg h.1 h.2.1 h.2.2.1 h.2.2.2.1 h.2.2.2.2 b
theorem R6{a X w':World}{g:Nat}{v0 v1 v2 v3:Value}{cs:Array Value}{t:TypeId}(h:Sx a g v0 v1 v2 v3 X)(b:Below (X.alloc (.cells cs t)).heap.size (X.alloc (.cells cs t)) w'):aC w' X.heap.size t cs∧a.heap.size≤X.heap.size:=⟨(aC.new X t cs).below b (aC.new X t cs).lt,h.1.size⟩
theorem I7{a X w':World}{g:Nat}{v0 v1 v2 v3:Value}{cs:Array Value}{t:TypeId}(h:Sx a g v0 v1 v2 v3 X.drew)(b:Below (X.alloc (.cells cs t)).drew.heap.size (X.alloc (.cells cs t)).drew w'):aC w' X.heap.size t cs∧a.heap.size≤X.heap.size:=⟨(aC.new X t cs).drew.below b (aC.new X t cs).drew.lt,h.1.size⟩
structure A9(G:Nat)(key:List Nat)(n:Nat)(w wr:World):Prop where
 r:aC wr (G+1) 304 (va .u8 (Ci.upd (Ci.exF key) fF n))
 bel:Below G w wr
theorem aWt(key:List Nat)(hkl:key.length=16)(hk:Ci.Byt key)(w:World):
 Calls Tryz.prog 165 #[.agg (va .u8 key)] w λe w'=>e=.returned (.agg (va .u8 (Ci.exL key)))∧Below w.heap.size w w':=by
 have hzv:=wJ
 have hz4:=aL9
 have hzs:=a3W
 have hvs:(va .u8 key).size=16:=by rw [b9,hkl]
 have hsz0:(Tryz.prog.info? 26).map (·.size)=some (va .u8 key).size:=by rw [b9,hkl];kernel_rfl
 have hsz:=Lib.hid hsz0
 have hst:(storeCells ⟨w.heap.size+1,0,none⟩ (va .u8 key).toList).run Tryz.prog ((w.alloc (.cells (va .u8 key) 26)).alloc (.cells (va .u8 fF) 304))=.ok () ((w.alloc (.cells (va .u8 key) 26)).alloc (.cells (va .u8 (Ci.upd (Ci.exF key) fF 16)) 304)):=by
  have hb:aC ((w.alloc (.cells (va .u8 key) 26)).alloc (.cells (va .u8 fF) 304)) (w.alloc (.cells (va .u8 key) 26)).heap.size 304 (va .u8 fF):=aC.new _ _ _
  have h:=bCW (P:=Tryz.prog) hb 0 .u8 key (by rw [b9,hkl,nL];omega)
  have e:((va .u8 fF).toList.take 0++(nv .u8 key++(va .u8 fF).toList.drop (0+(nv .u8 key).length))).toArray=va .u8 (Ci.upd (Ci.exF key) fF 16):=by
   rw [<-Ci.upd_first key fF nL hkl,aZ,hkl]
   simp [va,rT,wZ]
  rw [e,World.setRow_alloc_new,show (w.alloc (.cells (va .u8 key) 26)).heap.size=w.heap.size+1 from by simp] at h
  exact h
 have hm:A9 w.heap.size key 16 w ((w.alloc (.cells (va .u8 key) 26)).alloc (.cells (va .u8 (Ci.upd (Ci.exF key) fF 16)) 304)):=by
  refine ⟨?_,((Below.refl _ _).alloc (aS _) _).alloc (by simp) _⟩
  have:=aC.new (w.alloc (.cells (va .u8 key) 26)) 304 (va .u8 (Ci.upd (Ci.exF key) fF 16))
  simpa using this
 have hmm:=Lib.hid hm
 clear hsz0 hm
 go_enter Tryz.func165,Tryz.ntmps165
 go_wp2_with (refine wpList_load_row rfl 26 (.tmp 1) rfl w.heap.size rfl 26 (va .u8 key) (0,0) _ ?hq Tryz.underlying26 rfl hsz.out ?_
              case hq=>exact (aC.new _ _ _).alloc _)
 clear hst hvs hzs
 generalize (w.alloc (.cells (va .u8 key) 26)).alloc (.cells (va .u8 (Ci.upd (Ci.exF key) fF 16)) 304)=w1 at *
 go_loopw [3] (λs wr=>∃K:Nat,K≤10∧s=.int .i64 ((K:Int)+1)∧A9 w.heap.size key (16*(K+1)) w wr) (λs _=>11-(intOf s).toNat)
 case atStart=>exact ⟨0,by omega,rfl,hmm.out⟩
 case round =>
  clear hmm
  obtain ⟨K,hK,rfl,hmem⟩:=hrel
  by_cases hlt:K<10
  ·have hltI:(K:Int)+1≤10:=by omega
   have hKI:(K:Int)<11:=by omega
   have hrow:=hmem.r.part (K*16) 16
   rw [Ci.upd_row key fF nL hkl K _ (aS _) (by omega)] at hrow
   have hbl:=Ci.rowE_len hkl K
   have hbb:=Ci.rowE_byt hk K
   generalize hbe:Ci.rowE key K=b at *
   have hnl:(nv .u8 b).length=16:=by rw [aZ,hbl]
   have hst:=tF (P:=Tryz.prog) wr 26 (va .u8 eD) .u8 b (by rw [b9,hbl,oB])
   have hst2:(storeCells ⟨wr.heap.size,0,none⟩ (nv .u8 b)).run Tryz.prog (wr.alloc (.cells (va .u8 eD) 26))=.ok () (wr.alloc (.cells (va .u8 b) 26)):=by
    have:(va .u8 b).toList=nv .u8 b:=by simp [va]
    rw [<-this];exact hst
   have hmm:=Lib.hid hmem
   have hrh:=Lib.hid hrow
   clear hmem hrow
   have hsl:=bEw
   obtain ⟨dW,hle⟩:∃dW,(b.drop 12).take 4=dW:=⟨_,rfl⟩
   have hll:dW.length=4:=by rw [<-hle];simp;omega
   have hrl:=(aC.new wr 26 (va .u8 b)).part 12 4
   rw [hle] at hrl
   have hg:∀j,j<4->dW.getD j 0=b.getD (12+j) 0:=λj hj=>by
    rw [<-hle]
    simp [hj]
   have hrlh:=Lib.hid hrl
   have hghh:=Lib.hid hg
   have hnl4:(nv .u8 dW).length=4:=by rw [aZ,hll]
   have hst4:(storeCells ⟨wr.heap.size+1,0,none⟩ (nv .u8 dW)).run Tryz.prog ((wr.alloc (.cells (va .u8 b) 26)).alloc (.cells (va .u8 z4) 378))=.ok () ((wr.alloc (.cells (va .u8 b) 26)).alloc (.cells (va .u8 dW) 378)):=by
    have h:=tF (P:=Tryz.prog) (wr.alloc (.cells (va .u8 b) 26)) 378 (va .u8 z4) .u8 dW (by rw [b9,hll,aKg])
    have:(va .u8 dW).toList=nv .u8 dW:=by simp [va]
    rw [this,show (wr.alloc (.cells (va .u8 b) 26)).heap.size=wr.heap.size+1 from by simp] at h
    exact h
   have hbL:aC ((wr.alloc (.cells (va .u8 b) 26)).alloc (.cells (va .u8 dW) 378)) (wr.heap.size+1) 378 (va .u8 dW):=by
    have:=aC.new (wr.alloc (.cells (va .u8 b) 26)) 378 (va .u8 dW)
    simpa using this
   have hbX:aC ((wr.alloc (.cells (va .u8 b) 26)).alloc (.cells (va .u8 dW) 378)) wr.heap.size 26 (va .u8 b):=(aC.new _ _ _).alloc _
   have hbW:A9 w.heap.size key (16*(K+1)) w ((wr.alloc (.cells (va .u8 b) 26)).alloc (.cells (va .u8 dW) 378)):=⟨(hmm.out.r.alloc _).alloc _,(hmm.out.bel.alloc hmm.out.bel.size _).alloc (by have:=hmm.out.bel.size;simp;omega) _⟩
   have hbLh:=Lib.hid hbL
   have hbXh:=Lib.hid hbX
   have hbWh:=Lib.hid hbW
   have hbeh:=Lib.hid hbe
   clear hrl hle hg hbL hbX hbW hbe
   go_wp2_with (first
    |(refine wpList_load_mid rfl 26 (.tmp 16) rfl (w.heap.size+1) (K*16) rfl (nv .u8 b) _ hrh.out Tryz.underlying26 rfl (by rw [hnl];kernel_rfl) ?_)
    |(refine wpList_load_mid rfl 378 (.tmp 19) rfl wr.heap.size 12 rfl (nv .u8 dW) _ hrlh.out Tryz.underlying378 rfl (by rw [hnl4];kernel_rfl) ?_))
   have hwrs:wr.heap.size+1<((wr.alloc (.cells (va .u8 b) 26)).alloc (.cells (va .u8 dW) 378)).heap.size:=hbLh.out.lt
   generalize (wr.alloc (.cells (va .u8 b) 26)).alloc (.cells (va .u8 dW) 378)=w2 at *
   clear hst hst2 hst4 hsl hz4 hzv
   have e0:=hbLh.out.num (i:=0) (by omega)
   have e1:=hbLh.out.num (i:=1) (by omega)
   have e2:=hbLh.out.num (i:=2) (by omega)
   have e3:=hbLh.out.num (i:=3) (by omega)
   rw [hghh.out 0 (by omega)] at e0
   rw [hghh.out 1 (by omega)] at e1
   rw [hghh.out 2 (by omega)] at e2
   rw [hghh.out 3 (by omega)] at e3
   have hx0:=hbb.get (12+0)
   have hx1:=hbb.get (12+1)
   have hx2:=hbb.get (12+2)
   have hx3:=hbb.get (12+3)
   have hwz:=Ci.wd_zero b K
   obtain ⟨x0,hy0⟩:∃x,b.getD (12+0) 0=x:=⟨_,rfl⟩
   obtain ⟨x1,hy1⟩:∃x,b.getD (12+1) 0=x:=⟨_,rfl⟩
   obtain ⟨x2,hy2⟩:∃x,b.getD (12+2) 0=x:=⟨_,rfl⟩
   obtain ⟨x3,hy3⟩:∃x,b.getD (12+3) 0=x:=⟨_,rfl⟩
   rw [hy0] at e0 hx0
   rw [hy1] at e1 hx1
   rw [hy2] at e2 hx2
   rw [hy3] at e3 hx3
   rw [show b.getD 13 0=x1 from hy1,show b.getD 14 0=x2 from hy2,show b.getD 15 0=x3 from hy3,show b.getD 12 0=x0 from hy0] at hwz
   obtain ⟨p2,hp2⟩:∃p,Gf.pw 2 K=p:=⟨_,rfl⟩
   have hp2l:p2<256:=by rw [<-hp2];exact Gf.pw_lt 2 K (by omega)
   rw [hp2] at hwz
   have hpz:=Lib.hid ((Gf.powZ_nat 2 K (by omega)).trans hp2)
   have hxor:bits BinOp.xor IntKind.u8 ((Gf.sub x1:Nat):Int) (p2:Int)=((Gf.sub x1 ^^^ p2:Nat):Int):=u8_xor_nat _ _ (Gf.sub_lt _) hp2l
   have hwzh:=Lib.hid hwz
   have hwsh:=Lib.hid hwrs
   have hwK:IntKind.i64.wrap (K:Int)=(K:Int):=IntWalk.i64_in _ (by omega)
   have hSp:=Lib.hid (show Sx w2 (wr.heap.size+1) _ _ _ _ w2.drew from ⟨jV (Below.refl _ _) 1,e0,e1,e2,e3⟩)
   clear hwz hy0 hy1 hy2 hy3 hp2 hwrs
   go_upto_region 7 with fail
   go_cut [6] (λv wx=>∃N,v=.pointer (some ⟨N,0,none⟩)∧aC wx N 378 (va .u8 (Ci.wd b K 0))∧w2.heap.size≤N∧Below w2.heap.size w2 wx)
   case first =>
    go_region_held3 (λw'=>Below w2.heap.size w2 w'∧w'.cell? ⟨wr.heap.size+1,0,none⟩=some (.int .u8 (x0:Int))∧w'.cell? ⟨wr.heap.size+1,1,none⟩=some (.int .u8 (x1:Int))∧w'.cell? ⟨wr.heap.size+1,2,none⟩=some (.int .u8 (x2:Int))∧w'.cell? ⟨wr.heap.size+1,3,none⟩=some (.int .u8 (x3:Int)))
     (first
      |exact hSp.out
      |exact xV hwsh.out hSp.out
      |exact F9 hwsh.out hSp.out
      |exact aBw hwsh.out hN.out.2 (aBw hwsh.out hN.out.2 (aBw hwsh.out hN.out.2 (aBw hwsh.out hN.out.2 hSp.out)))
      |go_keep)
     ((first
       |(go_at_call 224;(with_reducible refine (O1 x1 (Gf.sub x1) hx1 rfl _).mono ?_);rintro e wq ⟨rfl,bq⟩;(first|(replace hN:=Lib.hid (And.intro (hN.out.1.below bq hN.out.1.lt) hN.out.2);obtain ⟨n0,n1,n2,n3⟩:=lU hN.out.1;obtain ⟨m0,m1,m2,m3⟩:=mD hN.out.1;replace hSp:=Lib.hid (i4 hwsh.out hSp.out bq))|(with_reducible have hN:=Lib.hid (R6 hSp.out bq);obtain ⟨n0,n1,n2,n3⟩:=lU hN.out.1;obtain ⟨m0,m1,m2,m3⟩:=mD hN.out.1;replace hSp:=Lib.hid (i4 hwsh.out (xV hwsh.out hSp.out) bq))|(with_reducible have hN:=Lib.hid (I7 hSp.out bq);obtain ⟨n0,n1,n2,n3⟩:=lU hN.out.1;obtain ⟨m0,m1,m2,m3⟩:=mD hN.out.1;replace hSp:=Lib.hid (i4 hwsh.out (F9 hwsh.out hSp.out) bq))|(replace hSp:=Lib.hid (i4 hwsh.out hSp.out bq))))
       |(go_at_call 224;(with_reducible refine (O1 x2 (Gf.sub x2) hx2 rfl _).mono ?_);rintro e wq ⟨rfl,bq⟩;(first|(replace hN:=Lib.hid (And.intro (hN.out.1.below bq hN.out.1.lt) hN.out.2);obtain ⟨n0,n1,n2,n3⟩:=lU hN.out.1;obtain ⟨m0,m1,m2,m3⟩:=mD hN.out.1;replace hSp:=Lib.hid (i4 hwsh.out hSp.out bq))|(with_reducible have hN:=Lib.hid (R6 hSp.out bq);obtain ⟨n0,n1,n2,n3⟩:=lU hN.out.1;obtain ⟨m0,m1,m2,m3⟩:=mD hN.out.1;replace hSp:=Lib.hid (i4 hwsh.out (xV hwsh.out hSp.out) bq))|(with_reducible have hN:=Lib.hid (I7 hSp.out bq);obtain ⟨n0,n1,n2,n3⟩:=lU hN.out.1;obtain ⟨m0,m1,m2,m3⟩:=mD hN.out.1;replace hSp:=Lib.hid (i4 hwsh.out (F9 hwsh.out hSp.out) bq))|(replace hSp:=Lib.hid (i4 hwsh.out hSp.out bq))))
       |(go_at_call 224;(with_reducible refine (O1 x3 (Gf.sub x3) hx3 rfl _).mono ?_);rintro e wq ⟨rfl,bq⟩;(first|(replace hN:=Lib.hid (And.intro (hN.out.1.below bq hN.out.1.lt) hN.out.2);obtain ⟨n0,n1,n2,n3⟩:=lU hN.out.1;obtain ⟨m0,m1,m2,m3⟩:=mD hN.out.1;replace hSp:=Lib.hid (i4 hwsh.out hSp.out bq))|(with_reducible have hN:=Lib.hid (R6 hSp.out bq);obtain ⟨n0,n1,n2,n3⟩:=lU hN.out.1;obtain ⟨m0,m1,m2,m3⟩:=mD hN.out.1;replace hSp:=Lib.hid (i4 hwsh.out (xV hwsh.out hSp.out) bq))|(with_reducible have hN:=Lib.hid (I7 hSp.out bq);obtain ⟨n0,n1,n2,n3⟩:=lU hN.out.1;obtain ⟨m0,m1,m2,m3⟩:=mD hN.out.1;replace hSp:=Lib.hid (i4 hwsh.out (F9 hwsh.out hSp.out) bq))|(replace hSp:=Lib.hid (i4 hwsh.out hSp.out bq))))
       |(go_at_call 224;(with_reducible refine (O1 x0 (Gf.sub x0) hx0 rfl _).mono ?_);rintro e wq ⟨rfl,bq⟩;(first|(replace hN:=Lib.hid (And.intro (hN.out.1.below bq hN.out.1.lt) hN.out.2);obtain ⟨n0,n1,n2,n3⟩:=lU hN.out.1;obtain ⟨m0,m1,m2,m3⟩:=mD hN.out.1;replace hSp:=Lib.hid (i4 hwsh.out hSp.out bq))|(with_reducible have hN:=Lib.hid (R6 hSp.out bq);obtain ⟨n0,n1,n2,n3⟩:=lU hN.out.1;obtain ⟨m0,m1,m2,m3⟩:=mD hN.out.1;replace hSp:=Lib.hid (i4 hwsh.out (xV hwsh.out hSp.out) bq))|(with_reducible have hN:=Lib.hid (I7 hSp.out bq);obtain ⟨n0,n1,n2,n3⟩:=lU hN.out.1;obtain ⟨m0,m1,m2,m3⟩:=mD hN.out.1;replace hSp:=Lib.hid (i4 hwsh.out (F9 hwsh.out hSp.out) bq))|(replace hSp:=Lib.hid (i4 hwsh.out hSp.out bq))))
       |(go_at_call 225;(refine (a5S 2 (K:Int) p2 (by omega) hpz.out _).mono ?_);rintro e wq ⟨rfl,bq⟩;(first|(replace hN:=Lib.hid (And.intro (hN.out.1.below bq hN.out.1.lt) hN.out.2);obtain ⟨n0,n1,n2,n3⟩:=lU hN.out.1;obtain ⟨m0,m1,m2,m3⟩:=mD hN.out.1;replace hSp:=Lib.hid (i4 hwsh.out hSp.out bq))|(with_reducible have hN:=Lib.hid (R6 hSp.out bq);obtain ⟨n0,n1,n2,n3⟩:=lU hN.out.1;obtain ⟨m0,m1,m2,m3⟩:=mD hN.out.1;replace hSp:=Lib.hid (i4 hwsh.out (xV hwsh.out hSp.out) bq))|(with_reducible have hN:=Lib.hid (I7 hSp.out bq);obtain ⟨n0,n1,n2,n3⟩:=lU hN.out.1;obtain ⟨m0,m1,m2,m3⟩:=mD hN.out.1;replace hSp:=Lib.hid (i4 hwsh.out (F9 hwsh.out hSp.out) bq))|(replace hSp:=Lib.hid (i4 hwsh.out hSp.out bq))))))
    all_goals
     go_wp2_with fail
     go_meet
    all_goals first
     |exact ⟨_,rfl,by rw [hwzh.out];exact aC.new _ _ _,hSp.out.1.size,hSp.out.1.alloc hSp.out.1.size _⟩
     |exact ⟨_,rfl,by rw [hwzh.out];exact (aC.new _ _ _).drew,hSp.out.1.size,jV (hSp.out.1.alloc hSp.out.1.size _) 1⟩
     |exact ⟨_,rfl,by rw [hwzh.out];exact (((hN.out.1.set_ 0 _).set_ 1 _).set_ 2 _).set_ 3 _,hN.out.2,(((hSp.out.1.setCell hN.out.2 _).setCell hN.out.2 _).setCell hN.out.2 _).setCell hN.out.2 _⟩
   case rest =>
    obtain ⟨N,rfl,hbN,hN2,hbC⟩:=hcut
    have hX2:=hbXh.out.below hbC hbXh.out.lt
    have hW2:A9 w.heap.size key (16*(K+1)) w wc:=⟨hbWh.out.r.below hbC hbWh.out.r.lt,hbWh.out.bel.trans (hbC.mono hbWh.out.bel.size)⟩
    have hNX:wr.heap.size≠N:=by have:=hwsh.out;omega
    have hNR:w.heap.size+1≠N:=by have:=hbWh.out.r.lt;omega
    have hXR:w.heap.size+1<wr.heap.size:=hmm.out.r.lt
    have hNG:w.heap.size≤N:=by have:=hbWh.out.bel.size;omega
    have hNh:=Lib.hid hbN
    have hXh:=Lib.hid hX2
    have hWh:=Lib.hid hW2
    have hne1:=Lib.hid hNX
    have hne2:=Lib.hid hNR
    clear hbN hX2 hW2 hbC hSp hpz hxor e0 e1 e2 e3 hx0 hx1 hx2 hx3 hwzh hp2l hNX hNR hwK
    obtain ⟨X,hXe⟩:∃X,wr.heap.size=X:=⟨_,rfl⟩
    rw [hXe] at hXh hne1
    clear hwsh
    go_wp2
    rw [hXe]
    go_loopw [38] (λs wx=>∃i:Nat,i≤16∧s=.int .i64 (i:Int)∧aC wx N 378 (va .u8 (Ci.wd b K i))∧aC wx X 26 (va .u8 b)∧A9 w.heap.size key (16*(K+1)+i) w wx) (λs _=>16-(intOf s).toNat)
    case atStart=>exact ⟨0,by omega,rfl,hNh.out,hXh.out,hWh.out⟩
    case round =>
     clear hNh hXh hWh
     obtain ⟨i,hi16,rfl,hN0,hX0,hM0⟩:=hrel
     by_cases hli:i<16
     ·have hliI:(i:Int)<16:=by omega
      obtain ⟨m,hm⟩:∃m,i%4=m:=⟨_,rfl⟩
      have hm4:m<4:=by omega
      have lJ:(i:Int).tmod 4=(m:Int):=by rw [Int.tmod_eq_emod_of_nonneg (by omega)];omega
      have hmE:(i:Int)%4=(m:Int):=by omega
      have hm4I:(m:Int)<4:=by omega
      obtain ⟨hs1,hs2⟩:=Ci.wd_step b K i hli
      have hnx:=Ci.exF_next key K i hli
      rw [hbeh.out] at hnx
      rw [hm] at hs1 hs2 hnx
      obtain ⟨c,hc⟩:∃c,Ci.col b K m (i / 4)=c:=⟨_,rfl⟩
      rw [hc] at hs1 hs2 hnx
      have hc1:=hN0.num (i:=m) (by rw [Ci.wd_len];exact hm4)
      have hf1:=hN0.frozen m
      have hc2:=hX0.num (i:=i) (by omega)
      have hu:=(Ci.wd_byt hbb K i).get m
      have hy:=hbb.get i
      have hxor:bits BinOp.xor IntKind.u8 (((Ci.wd b K i).getD m 0:Nat):Int) ((b.getD i 0:Nat):Int)=(c:Int):=by rw [u8_xor_nat _ _ hu hy,hs2]
      have hN3:aC (wr.drew.setCell ⟨N,m,none⟩ (.int .u8 (c:Int))) N 378 (va .u8 (Ci.wd b K (i+1))):=by
       have:=hN0.drew.setNum m c
       rw [hs1] at this
       exact this
      have hX3:aC (wr.drew.setCell ⟨N,m,none⟩ (.int .u8 (c:Int))) X 26 (va .u8 b):=hX0.drew.far hne1.out _
      have hM3:A9 w.heap.size key (16*(K+1)+i) w (wr.drew.setCell ⟨N,m,none⟩ (.int .u8 (c:Int))):=⟨hM0.r.drew.far hne2.out _,(jV hM0.bel 1).setCell hNG _⟩
      have hg3:(Ci.wd b K (i+1)).getD m 0=c:=by rw [<-hs1];exact getD_set_eq (by rw [Ci.wd_len];exact hm4)
      have hN3h:=Lib.hid hN3
      have hX3h:=Lib.hid hX3
      have hM3h:=Lib.hid hM3
      have hg3h:=Lib.hid hg3
      have hnxh:=Lib.hid hnx
      generalize (Ci.wd b K i).getD m 0=u0 at *
      generalize b.getD i 0=y0 at *
      clear hN0 hX0 hM0 hN3 hX3 hM3 hs1 hs2 hnx hg3 hc hm
      go_wp2
      refine wp_region_still_tail 9 (by kernel_rfl) (by kernel_rfl) ?_
      simp only [List.take_succ_cons,List.take_zero,List.drop_succ_cons,List.drop_zero]
      change wpStill _ _ wr.drew _ _ _
      iterate 9 still_step
      refine wpStill_nil ?_
      change wpList _ _ _ _ _ wr.drew
      go_wp2
      have hgz:=hN3h.out.num (i:=m) (by rw [Ci.wd_len];exact hm4)
      rw [hg3h.out] at hgz
      have hK1:(0:Int)≤(K:Int)+1:=by omega
      have hK2:(K:Int)+1<11:=by omega
      have hi176:16*(K+1)+i<176:=by omega
      have hRf:=hM3h.out.r.frozen ((K+1)*16+i)
      have hRl:(va .u8 (Ci.upd (Ci.exF key) fF (16*(K+1)+i))).size=176:=by rw [b9,Ci.upd_len,nL]
      have hRc:=hM3h.out.r.num (i:=(K+1)*16+i) (by rw [Ci.upd_len,nL];omega)
      generalize (Ci.upd (Ci.exF key) fF (16*(K+1)+i)).getD ((K+1)*16+i) 0=r0 at hRc
      refine wp_region_still_tail 8 (by kernel_rfl) (by kernel_rfl) ?_
      simp only [List.take_succ_cons,List.take_zero,List.drop_succ_cons,List.drop_zero]
      change wpStill _ _ (wr.drew.setCell ⟨N,m,none⟩ (.int .u8 (c:Int))).drew _ _ _
      generalize hw3:wr.drew.setCell ⟨N,m,none⟩ (.int .u8 (c:Int))=w3 at *
      clear hc1 hf1 hc2
      iterate 8 still_step
      refine wpStill_nil ?_
      change wpList _ _ _ _ _ (wr.drew.setCell ⟨N,m,none⟩ (.int .u8 (c:Int))).drew
      rw [hw3]
      clear hw3
      go_wp2
      go_roundw
      case rel =>
       refine ⟨i+1,by omega,by go_num,hN3h.out.drew.far (by have:=hne2.out;simp;omega) _,hX3h.out.drew.far (by simp;omega) _,⟨?_,(jV hM3h.out.bel 1).setCell (by simp<;>omega) _⟩⟩
       have e5:=hM3h.out.r
       have e6:=hnxh.out
       rw [show 16*(K+1)+(i+1)=(16*(K+1)+i)+1 from rfl,<-Ci.upd_set]
       rw [show 16*(K+1)+i=(K+1)*16+i from by omega] at e5 e6 ⊢
       rw [e6]
       exact e5.drew.setNum ((K+1)*16+i) c
      case measure=>simp [intOf];omega
     ·obtain rfl:i=16:=by omega
      have hM0h:=Lib.hid hM0
      clear hN0 hX0 hM0
      go_wp2
      go_roundw
      case rel=>exact ⟨K+1,by omega,by go_num,by rw [show 16*(K+1+1)=16*(K+1)+16 from by omega];exact hM0h.out⟩
      case measure=>simp [intOf];omega
  ·obtain rfl:K=10:=by omega
   have hall:Ci.upd (Ci.exF key) fF (16*(10+1))=Ci.exL key:=Ci.exL_all key fF nL
   obtain ⟨hmr,hmb⟩:=hmem
   rw [hall] at hmr
   have hLl:=Ci.exL_len key
   have hsz0:(Tryz.prog.info? 304).map (·.size)=some (va .u8 (Ci.exL key)).size:=by rw [b9,hLl];kernel_rfl
   have hszE:=Lib.hid hsz0
   have hst:=mU (P:=Tryz.prog) hmr .u8 (Ci.exL key) (by simp [b9])
   have hvs:(va .u8 (Ci.exL key)).size=176:=by rw [b9,hLl]
   have hmrh:=Lib.hid hmr
   have hmbh:=Lib.hid hmb
   clear hsz0 hmr hmb hall
   go_wp2_with (refine wpList_load_row rfl 304 (.tmp 2) rfl (w.heap.size+1) rfl 304 (va .u8 (Ci.exL key)) (0,0) _ hmrh.out Tryz.underlying304 rfl hszE.out ?_)
   exact bodyPost_ret (results_cell_row rfl _ _ (w.heap.size+1) 304 (va .u8 (Ci.exL key)) (0,0) _ rfl (hmrh.out.row _) Tryz.underlying304 rfl hszE.out) rfl ⟨rfl,eJ hmbh.out (by omega) _⟩
def aEP(args:List SV):Option SV:=match args with
 |[.a c]=>(match iP c with
  |some x=>match _h:Nat.beq x.n 16 with
   |true=>some (.a (.q (.byt ⟨Ci.exL x.l,176,Ci.exL_len _,Ci.exL_byt x.hb⟩)))
   |false=>none
  |none=>none)
 |_=>none
theorem aVh:bN Xt 165 (cU aEP):=jY (bB (by kernel_rfl)) λargs y hf r vals w hd hg=>by
 unfold aEP at hf
 split at hf
 ·split at hf
  ·rename_i c x hx
   split at hf
   ·rename_i hq
    cases hf
    rw [bE,bR] at hq
    cases hd with
    |cons d1 t =>
     cases t
     cases d1 with
     |a d1 =>
      obtain rfl:=nP hx d1
      refine (aWt x.l (by rw [x.hl,hq]) x.hb w).mono ?_
      rintro e w' ⟨rfl,h2⟩
      exact ⟨_,rfl,.a (.q (.byt ⟨Ci.exL x.l,176,Ci.exL_len _,Ci.exL_byt x.hb⟩)),h2⟩
   ·cases hf
  ·cases hf
 ·cases hf
def aFU:List (FuncId×bV):=(165,cU aEP)::aIX
theorem aNl:∀p∈aFU,bN Xt p.1 p.2:=by
 intro p hp
 rcases bG.1 hp with rfl|hp
 ·exact aVh
 ·exact a6r p hp
