/-
  The expanded key by words, plainly: what the reference computes is the expanded key.
-/
import Derived.Test.YtjboelhcieepkaaGreatDoorZ12
import Derived.Deep.RegionHeld3
import Derived.Deep.LoopGhost
import Derived.Deep.DeepCutAuto
import Derived.Deep.MidRow
namespace Go.Proofs.YtjboelhcieepkaaGreatDoor.Ci
set_option maxRecDepth 16384
def pv(key:List Nat)(i j:Nat):Nat:=exF key (4*(i-1)+j)
def pvL(key:List Nat)(i:Nat):List Nat:=[pv key i 0,pv key i 1,pv key i 2,pv key i 3]
def tWord(key:List Nat)(i:Nat):List Nat:=if i%4=0 then [Gf.sub (pv key i 1) ^^^ Gf.pw 2 ((i-1) / 4),Gf.sub (pv key i 2),Gf.sub (pv key i 3),Gf.sub (pv key i 0)] else pvL key i
theorem tWord_len(key:List Nat)(i:Nat):(tWord key i).length=4:=by unfold tWord;split<;>rfl
theorem pv_lt{key:List Nat}(h:Byt key)(i j:Nat):pv key i j<256:=exF_lt h _
theorem tWord_byt{key:List Nat}(h:Byt key)(i:Nat):Byt (tWord key i):=by
 have p:=pv_lt h i
 intro x hx
 unfold tWord at hx
 split at hx
 ·simp only [List.mem_cons,List.not_mem_nil,or_false] at hx
  rcases hx with rfl|rfl|rfl|rfl
  ·exact Nat.xor_lt_two_pow (n:=8) (Gf.sub_lt _) (Gf.pw_lt 2 _ (by omega))
  all_goals exact Gf.sub_lt _
 ·simp only [pvL,List.mem_cons,List.not_mem_nil,or_false] at hx
  rcases hx with rfl|rfl|rfl|rfl
  all_goals exact p _
theorem pv_first(key:List Nat)(K j:Nat)(hj:j<4):pv key (4*(K+1)) j=(rowE key K).getD (12+j) 0:=by
 unfold pv
 rw [show 4*(4*(K+1)-1)+j=16*K+(12+j) from by omega]
 exact exF_row key K _ (by omega)
theorem pv_next(key:List Nat)(K q j:Nat)(hq:q<3)(hj:j<4):pv key (4*(K+1)+(q+1)) j=col (rowE key K) K j q:=by
 unfold pv
 rw [show 4*(4*(K+1)+(q+1)-1)+j=16*(K+1)+(4*q+j) from by omega]
 rw [exF_next key K _ (by omega),show (4*q+j)%4=j from by omega,show (4*q+j) / 4=q from by omega]
theorem word_next(key:List Nat)(i k:Nat)(h4:4≤i)(hk:k<4):exF key (4*(i-4)+k) ^^^ (tWord key i).getD k 0=exF key (4*i+k):=by
 obtain ⟨K,q,hq,rfl⟩:∃K q,q<4∧i=4*(K+1)+q:=⟨i / 4-1,i%4,by omega,by omega⟩
 rw [show 4*(4*(K+1)+q-4)+k=16*K+(4*q+k) from by omega,exF_row key K _ (by omega)]
 rw [show 4*(4*(K+1)+q)+k=16*(K+1)+(4*q+k) from by omega,exF_next key K _ (by omega)]
 rw [show (4*q+k)%4=k from by omega,show (4*q+k) / 4=q from by omega]
 rcases q with _|q
 ·unfold tWord
  rw [if_pos (by omega)]
  simp only [Nat.add_zero]
  rw [pv_first key K 0 (by omega),pv_first key K 1 (by omega),pv_first key K 2 (by omega),pv_first key K 3 (by omega),show (4*(K+1)-1) / 4=K from by omega]
  simp only [col,Nat.mul_zero,Nat.zero_add]
  rw [Nat.xor_comm]
  refine congrArg (· ^^^ _) ?_
  rcases k with _|_|_|_|k
  ·simp [tw]
  ·simp [tw]
  ·simp [tw]
  ·simp [tw]
  ·omega
 ·unfold tWord
  rw [if_neg (by omega)]
  simp only [pvL]
  rw [pv_next key K q 0 (by omega) (by omega),pv_next key K q 1 (by omega) (by omega),pv_next key K q 2 (by omega) (by omega),pv_next key K q 3 (by omega) (by omega)]
  simp only [col]
  rw [Nat.xor_comm]
  refine congrArg (· ^^^ _) ?_
  rcases k with _|_|_|_|k
  ·rfl
  ·rfl
  ·rfl
  ·rfl
  ·omega
theorem word_key{key:List Nat}(i k:Nat)(hi:i<4)(hk:k<4):exF key (4*i+k)=key.getD (4*i+k) 0:=by
 have e:=exF_row key 0 (4*i+k) (by omega)
 rw [show 16*0+(4*i+k)=4*i+k from by omega] at e
 exact e
theorem pvL_part(key z:List Nat)(n i:Nat)(h1:1≤i)(hn:4*i≤n)(hz:4*i≤z.length):((upd (exF key) z n).drop ((i-1)*4)).take 4=pvL key i:=by
 apply List.ext_getElem
 ·simp [upd_len,pvL];omega
 ·intro j h1' h2
  have hj:j<4:=h2
  rw [List.getElem_take,List.getElem_drop]
  have e:=upd_get (exF key) z n ((i-1)*4+j) (by omega)
  rw [if_pos (by omega)] at e
  have h3:(i-1)*4+j<(upd (exF key) z n).length:=by rw [upd_len];omega
  rw [List.getD_eq_getElem?_getD,List.getElem?_eq_getElem h3] at e
  simp only [Option.getD_some] at e
  rw [e,show (i-1)*4+j=4*(i-1)+j from by omega]
  rcases j with _|_|_|_|j
  ·rfl
  ·rfl
  ·rfl
  ·rfl
  ·omega
theorem pow_keep(i:Nat)(h:i%4≠0):(i-1) / 4=(i+1-1) / 4:=by omega
theorem pow_next(i:Nat)(h:i%4=0)(h4:4≤i):Gf.gm (Gf.pw 2 ((i-1) / 4)) 2=Gf.pw 2 ((i+1-1) / 4):=by
 rw [show (i+1-1) / 4=(i-1) / 4+1 from by omega]
 rfl
end Go.Proofs.YtjboelhcieepkaaGreatDoor.Ci
namespace Go.Proofs.YtjboelhcieepkaaGreatDoor
open Go.RowKit
def z4:List Nat:=List.replicate 4 0
theorem z4_len:z4.length=4:=rfl
theorem zero4(w:World):(zeroValue 378).run Tryz.prog w=.ok (.agg (va .u8 z4)) w:=by kernel_rfl
theorem fourCells{w:World}{N:Nat}{t:TypeId}{a b c d:Value}(h:Blk w N t #[a,b,c,d]):w.cell? ⟨N,0,none⟩=some a∧w.cell? ⟨N,1,none⟩=some b∧w.cell? ⟨N,2,none⟩=some c∧w.cell? ⟨N,3,none⟩=some d :=
 ⟨h.cell 0,h.cell 1,h.cell 2,h.cell 3⟩
theorem fourFree{w:World}{g:Nat}{t:TypeId}{cs:Array Value}(h:Blk w g t cs):
 w.frozen? ⟨g,0,none⟩=false∧w.frozen? ⟨g,1,none⟩=false∧w.frozen? ⟨g,2,none⟩=false∧w.frozen? ⟨g,3,none⟩=false :=
 ⟨h.frozen 0,h.frozen 1,h.frozen 2,h.frozen 3⟩
end Go.Proofs.YtjboelhcieepkaaGreatDoor
namespace Go.Proofs.YtjboelhcieepkaaGreatDoor
set_option maxRecDepth 16384
open Go.RowKit
theorem zeroSched(w:World):(zeroValue 304).run Tryz.prog w=.ok (.agg (va .u8 z176)) w:=by kernel_rfl
theorem run_storeMid{P:Program}{w:World}{g:Nat}{t:TypeId}{cur:Array Value}(h:Blk w g t cur)(o:Nat)(k:IntKind)(l:List Nat)(hf:o+l.length≤cur.size):
 (storeCells ⟨g,o,none⟩ (va k l).toList).run P w=.ok () (w.setRow g (cur.toList.take o++(nv k l++cur.toList.drop (o+(nv k l).length))).toArray):=by
 have e:=run_storeCells_at (P:=P) g o t (va k l).toList 0 cur w h (by simp [va_size];omega) (fun v hv=>nv_one k l v (by simpa [va] using hv))
 simpa [va] using e
theorem array_at(g:Nat)(W:World):(Instr.arrayAt 378 (.slice (some ⟨g,12,none⟩) 4 4)).run Tryz.prog W=.ok (.pointer (some ⟨g,12,none⟩)) W:=by kernel_rfl
theorem keepX{w0 wa wb:World}{g:Nat}{v0 v1 v2 v3:Value}(hg:g<w0.heap.size)(hb:Below w0.heap.size w0 wa)(h0:wa.cell? ⟨g,0,none⟩=some v0)(h1:wa.cell? ⟨g,1,none⟩=some v1)(h2:wa.cell? ⟨g,2,none⟩=some v2)(h3:wa.cell? ⟨g,3,none⟩=some v3)(b:Below wa.heap.size wa wb):
 Below w0.heap.size w0 wb∧wb.cell? ⟨g,0,none⟩=some v0∧wb.cell? ⟨g,1,none⟩=some v1∧wb.cell? ⟨g,2,none⟩=some v2∧wb.cell? ⟨g,3,none⟩=some v3:=by
 have hs:=hb.size
 exact ⟨hb.trans (b.mono hs),(b.cell (p:=⟨g,0,none⟩) (by simp;omega)).trans h0,(b.cell (p:=⟨g,1,none⟩) (by simp;omega)).trans h1,(b.cell (p:=⟨g,2,none⟩) (by simp;omega)).trans h2,(b.cell (p:=⟨g,3,none⟩) (by simp;omega)).trans h3⟩
def Sx(a:World)(g:Nat)(v0 v1 v2 v3:Value)(w:World):Prop :=
 Below a.heap.size a w∧w.cell? ⟨g,0,none⟩=some v0∧w.cell? ⟨g,1,none⟩=some v1∧w.cell? ⟨g,2,none⟩=some v2∧w.cell? ⟨g,3,none⟩=some v3
theorem keepA4{a w:World}{g:Nat}{v0 v1 v2 v3:Value}{o:Obj}(hg:g<a.heap.size)(h:Sx a g v0 v1 v2 v3 w):Sx a g v0 v1 v2 v3 (w.alloc o):=by
 obtain ⟨hb,h0,h1,h2,h3⟩:=h
 have hs:=hb.size
 exact ⟨hb.alloc hs o,(World.cell?_alloc_lt w o _ (by simp;omega)).trans h0,(World.cell?_alloc_lt w o _ (by simp;omega)).trans h1,(World.cell?_alloc_lt w o _ (by simp;omega)).trans h2,(World.cell?_alloc_lt w o _ (by simp;omega)).trans h3⟩
theorem keepA4d{a w:World}{g:Nat}{v0 v1 v2 v3:Value}{o:Obj}(hg:g<a.heap.size)(h:Sx a g v0 v1 v2 v3 w.drew):Sx a g v0 v1 v2 v3 (w.alloc o).drew:=keepA4 (w:=w.drew) (o:=o) hg h
theorem keepC1{a w:World}{g N i:Nat}{v0 v1 v2 v3 u:Value}(hg:g<a.heap.size)(hN:a.heap.size≤N)(h:Sx a g v0 v1 v2 v3 w):Sx a g v0 v1 v2 v3 (w.setCell ⟨N,i,none⟩ u):=by
 obtain ⟨hb,h0,h1,h2,h3⟩:=h
 exact ⟨hb.setCell hN u,(cell_set_blk (by omega)).trans h0,(cell_set_blk (by omega)).trans h1,(cell_set_blk (by omega)).trans h2,(cell_set_blk (by omega)).trans h3⟩
theorem keepX4{a w w':World}{g:Nat}{v0 v1 v2 v3:Value}(hg:g<a.heap.size)(h:Sx a g v0 v1 v2 v3 w)(b:Below w.heap.size w w'):Sx a g v0 v1 v2 v3 w':=keepX hg h.1 h.2.1 h.2.2.1 h.2.2.2.1 h.2.2.2.2 b
theorem newBelow{a X w':World}{g:Nat}{v0 v1 v2 v3:Value}{cs:Array Value}{t:TypeId}(h:Sx a g v0 v1 v2 v3 X)(b:Below (X.alloc (.cells cs t)).heap.size (X.alloc (.cells cs t)) w'):Blk w' X.heap.size t cs∧a.heap.size≤X.heap.size:=⟨(Blk.new X t cs).below b (Blk.new X t cs).lt,h.1.size⟩
theorem newBelowd{a X w':World}{g:Nat}{v0 v1 v2 v3:Value}{cs:Array Value}{t:TypeId}(h:Sx a g v0 v1 v2 v3 X.drew)(b:Below (X.alloc (.cells cs t)).drew.heap.size (X.alloc (.cells cs t)).drew w'):Blk w' X.heap.size t cs∧a.heap.size≤X.heap.size:=⟨(Blk.new X t cs).drew.below b (Blk.new X t cs).drew.lt,h.1.size⟩
structure XpMem(G:Nat)(key:List Nat)(n:Nat)(w wr:World):Prop where
 r:Blk wr (G+1) 304 (va .u8 (Ci.upd (Ci.exF key) z176 n))
 bel:Below G w wr
set_option maxHeartbeats 2000000 in
theorem expand_any(key:List Nat)(hkl:key.length=16)(hk:Ci.Byt key)(w:World):
 Calls Tryz.prog 165 #[.agg (va .u8 key)] w fun e w'=>e=.returned (.agg (va .u8 (Ci.exL key)))∧Below w.heap.size w w':=by
 have hzv:=zero16
 have hz4:=zero4
 have hzs:=zeroSched
 have hvs:(va .u8 key).size=16:=by rw [va_size,hkl]
 have hsz0:(Tryz.prog.info? 26).map (·.size)=some (va .u8 key).size:=by rw [va_size,hkl];kernel_rfl
 have hsz:=Lib.hid hsz0
 have hst:(storeCells ⟨w.heap.size+1,0,none⟩ (va .u8 key).toList).run Tryz.prog ((w.alloc (.cells (va .u8 key) 26)).alloc (.cells (va .u8 z176) 304))=.ok () ((w.alloc (.cells (va .u8 key) 26)).alloc (.cells (va .u8 (Ci.upd (Ci.exF key) z176 16)) 304)):=by
  have hb:Blk ((w.alloc (.cells (va .u8 key) 26)).alloc (.cells (va .u8 z176) 304)) (w.alloc (.cells (va .u8 key) 26)).heap.size 304 (va .u8 z176):=Blk.new _ _ _
  have h:=run_storeMid (P:=Tryz.prog) hb 0 .u8 key (by rw [va_size,hkl,z176_len];omega)
  have e:((va .u8 z176).toList.take 0++(nv .u8 key++(va .u8 z176).toList.drop (0+(nv .u8 key).length))).toArray=va .u8 (Ci.upd (Ci.exF key) z176 16):=by
   rw [←Ci.upd_first key z176 z176_len hkl,nv_len,hkl]
   simp [va,nv_drop,nv_app]
  rw [e,World.setRow_alloc_new,show (w.alloc (.cells (va .u8 key) 26)).heap.size=w.heap.size+1 from by simp] at h
  exact h
 have hm:XpMem w.heap.size key 16 w ((w.alloc (.cells (va .u8 key) 26)).alloc (.cells (va .u8 (Ci.upd (Ci.exF key) z176 16)) 304)):=by
  refine ⟨?_,((Below.refl _ _).alloc (Nat.le_refl _) _).alloc (by simp) _⟩
  have:=Blk.new (w.alloc (.cells (va .u8 key) 26)) 304 (va .u8 (Ci.upd (Ci.exF key) z176 16))
  simpa using this
 have hmm:=Lib.hid hm
 clear hsz0 hm
 go_enter Tryz.func165,Tryz.ntmps165
 go_wp2_with (refine wpList_load_row rfl 26 (.tmp 1) rfl w.heap.size rfl 26 (va .u8 key) (0,0) _ ?hq Tryz.underlying26 rfl hsz.out ?_
              case hq=>exact (Blk.new _ _ _).alloc _)
 clear hst hvs hzs
 generalize (w.alloc (.cells (va .u8 key) 26)).alloc (.cells (va .u8 (Ci.upd (Ci.exF key) z176 16)) 304)=w1 at *
 go_loopw [3] (fun s wr=>∃K:Nat,K≤10∧s=.int .i64 ((K:Int)+1)∧XpMem w.heap.size key (16*(K+1)) w wr) (fun s _=>11-(intOf s).toNat)
 case atStart=>exact ⟨0,by omega,rfl,hmm.out⟩
 case round =>
  clear hmm
  obtain ⟨K,hK,rfl,hmem⟩:=hrel
  by_cases hlt:K<10
  ·have hltI:(K:Int)+1≤10:=by omega
   have hKI:(K:Int)<11:=by omega
   have hrow:=hmem.r.part (K*16) 16
   rw [Ci.upd_row key z176 z176_len hkl K _ (Nat.le_refl _) (by omega)] at hrow
   have hbl:=Ci.rowE_len hkl K
   have hbb:=Ci.rowE_byt hk K
   generalize hbe:Ci.rowE key K=b at *
   have hnl:(nv .u8 b).length=16:=by rw [nv_len,hbl]
   have hst:=run_storeNew (P:=Tryz.prog) wr 26 (va .u8 z16) .u8 b (by rw [va_size,hbl,z16_len])
   have hst2:(storeCells ⟨wr.heap.size,0,none⟩ (nv .u8 b)).run Tryz.prog (wr.alloc (.cells (va .u8 z16) 26))=.ok () (wr.alloc (.cells (va .u8 b) 26)):=by
    have:(va .u8 b).toList=nv .u8 b:=by simp [va]
    rw [←this];exact hst
   have hmm:=Lib.hid hmem
   have hrh:=Lib.hid hrow
   clear hmem hrow
   have hsl:=array_at
   obtain ⟨lst,hle⟩:∃lst,(b.drop 12).take 4=lst:=⟨_,rfl⟩
   have hll:lst.length=4:=by rw [←hle];simp;omega
   have hrl:=(Blk.new wr 26 (va .u8 b)).part 12 4
   rw [hle] at hrl
   have hg:∀j,j<4→lst.getD j 0=b.getD (12+j) 0:=fun j hj=>by
    rw [←hle]
    simp [hj]
   have hrlh:=Lib.hid hrl
   have hghh:=Lib.hid hg
   have hnl4:(nv .u8 lst).length=4:=by rw [nv_len,hll]
   have hst4:(storeCells ⟨wr.heap.size+1,0,none⟩ (nv .u8 lst)).run Tryz.prog ((wr.alloc (.cells (va .u8 b) 26)).alloc (.cells (va .u8 z4) 378))=.ok () ((wr.alloc (.cells (va .u8 b) 26)).alloc (.cells (va .u8 lst) 378)):=by
    have h:=run_storeNew (P:=Tryz.prog) (wr.alloc (.cells (va .u8 b) 26)) 378 (va .u8 z4) .u8 lst (by rw [va_size,hll,z4_len])
    have:(va .u8 lst).toList=nv .u8 lst:=by simp [va]
    rw [this,show (wr.alloc (.cells (va .u8 b) 26)).heap.size=wr.heap.size+1 from by simp] at h
    exact h
   have hbL:Blk ((wr.alloc (.cells (va .u8 b) 26)).alloc (.cells (va .u8 lst) 378)) (wr.heap.size+1) 378 (va .u8 lst):=by
    have:=Blk.new (wr.alloc (.cells (va .u8 b) 26)) 378 (va .u8 lst)
    simpa using this
   have hbX:Blk ((wr.alloc (.cells (va .u8 b) 26)).alloc (.cells (va .u8 lst) 378)) wr.heap.size 26 (va .u8 b):=(Blk.new _ _ _).alloc _
   have hbW:XpMem w.heap.size key (16*(K+1)) w ((wr.alloc (.cells (va .u8 b) 26)).alloc (.cells (va .u8 lst) 378)):=⟨(hmm.out.r.alloc _).alloc _,(hmm.out.bel.alloc hmm.out.bel.size _).alloc (by have:=hmm.out.bel.size;simp;omega) _⟩
   have hbLh:=Lib.hid hbL
   have hbXh:=Lib.hid hbX
   have hbWh:=Lib.hid hbW
   have hbeh:=Lib.hid hbe
   clear hrl hle hg hbL hbX hbW hbe
   go_wp2_with (first
    |(refine wpList_load_mid rfl 26 (.tmp 16) rfl (w.heap.size+1) (K*16) rfl (nv .u8 b) _ hrh.out Tryz.underlying26 rfl (by rw [hnl];kernel_rfl) ?_)
    |(refine wpList_load_mid rfl 378 (.tmp 19) rfl wr.heap.size 12 rfl (nv .u8 lst) _ hrlh.out Tryz.underlying378 rfl (by rw [hnl4];kernel_rfl) ?_))
   have hwrs:wr.heap.size+1<((wr.alloc (.cells (va .u8 b) 26)).alloc (.cells (va .u8 lst) 378)).heap.size:=hbLh.out.lt
   generalize (wr.alloc (.cells (va .u8 b) 26)).alloc (.cells (va .u8 lst) 378)=w2 at *
   clear hst hst2 hst4 hsl hz4 hzv
   have e0:=hbLh.out.num (i:=0) (by omega)
   have e1:=hbLh.out.num (i:=1) (by omega)
   have e2:=hbLh.out.num (i:=2) (by omega)
   have e3:=hbLh.out.num (i:=3) (by omega)
   rw [hghh.out 0 (by omega)] at e0
   rw [hghh.out 1 (by omega)] at e1
   rw [hghh.out 2 (by omega)] at e2
   rw [hghh.out 3 (by omega)] at e3
   have hx0:=hbb.get (12+0)
   have hx1:=hbb.get (12+1)
   have hx2:=hbb.get (12+2)
   have hx3:=hbb.get (12+3)
   have hwz:=Ci.wd_zero b K
   obtain ⟨x0,hy0⟩:∃x,b.getD (12+0) 0=x:=⟨_,rfl⟩
   obtain ⟨x1,hy1⟩:∃x,b.getD (12+1) 0=x:=⟨_,rfl⟩
   obtain ⟨x2,hy2⟩:∃x,b.getD (12+2) 0=x:=⟨_,rfl⟩
   obtain ⟨x3,hy3⟩:∃x,b.getD (12+3) 0=x:=⟨_,rfl⟩
   rw [hy0] at e0 hx0
   rw [hy1] at e1 hx1
   rw [hy2] at e2 hx2
   rw [hy3] at e3 hx3
   rw [show b.getD 13 0=x1 from hy1,show b.getD 14 0=x2 from hy2,show b.getD 15 0=x3 from hy3,show b.getD 12 0=x0 from hy0] at hwz
   obtain ⟨p2,hp2⟩:∃p,Gf.pw 2 K=p:=⟨_,rfl⟩
   have hp2l:p2<256:=by rw [←hp2];exact Gf.pw_lt 2 K (by omega)
   rw [hp2] at hwz
   have hpz:=Lib.hid ((Gf.powZ_nat 2 K (by omega)).trans hp2)
   have hxor:bits BinOp.xor IntKind.u8 ((Gf.sub x1:Nat):Int) (p2:Int)=((Gf.sub x1 ^^^ p2:Nat):Int):=u8_xor_nat _ _ (Gf.sub_lt _) hp2l
   have hwzh:=Lib.hid hwz
   have hwsh:=Lib.hid hwrs
   have hwK:IntKind.i64.wrap (K:Int)=(K:Int):=IntWalk.i64_in _ (by omega)
   have hSp:=Lib.hid (show Sx w2 (wr.heap.size+1) _ _ _ _ w2.drew from ⟨below_drewN (Below.refl _ _) 1,e0,e1,e2,e3⟩)
   clear hwz hy0 hy1 hy2 hy3 hp2 hwrs
   go_upto_region 7 with fail
   go_cut [6] (fun v wx=>∃N,v=.pointer (some ⟨N,0,none⟩)∧Blk wx N 378 (va .u8 (Ci.wd b K 0))∧w2.heap.size≤N∧Below w2.heap.size w2 wx)
   case first =>
    go_region_held3 (fun w'=>Below w2.heap.size w2 w'∧w'.cell? ⟨wr.heap.size+1,0,none⟩=some (.int .u8 (x0:Int))∧w'.cell? ⟨wr.heap.size+1,1,none⟩=some (.int .u8 (x1:Int))∧w'.cell? ⟨wr.heap.size+1,2,none⟩=some (.int .u8 (x2:Int))∧w'.cell? ⟨wr.heap.size+1,3,none⟩=some (.int .u8 (x3:Int)))
     (first
      |exact hSp.out
      |exact keepA4 hwsh.out hSp.out
      |exact keepA4d hwsh.out hSp.out
      |exact keepC1 hwsh.out hN.out.2 (keepC1 hwsh.out hN.out.2 (keepC1 hwsh.out hN.out.2 (keepC1 hwsh.out hN.out.2 hSp.out)))
      |go_keep)
     ((first
       |(go_at_call 224;(with_reducible refine (sub_to x1 (Gf.sub x1) hx1 rfl _).mono ?_);rintro e wq ⟨rfl,bq⟩;(first|(replace hN:=Lib.hid (And.intro (hN.out.1.below bq hN.out.1.lt) hN.out.2);obtain ⟨n0,n1,n2,n3⟩:=fourCells hN.out.1;obtain ⟨m0,m1,m2,m3⟩:=fourFree hN.out.1;replace hSp:=Lib.hid (keepX4 hwsh.out hSp.out bq))|(with_reducible have hN:=Lib.hid (newBelow hSp.out bq);obtain ⟨n0,n1,n2,n3⟩:=fourCells hN.out.1;obtain ⟨m0,m1,m2,m3⟩:=fourFree hN.out.1;replace hSp:=Lib.hid (keepX4 hwsh.out (keepA4 hwsh.out hSp.out) bq))|(with_reducible have hN:=Lib.hid (newBelowd hSp.out bq);obtain ⟨n0,n1,n2,n3⟩:=fourCells hN.out.1;obtain ⟨m0,m1,m2,m3⟩:=fourFree hN.out.1;replace hSp:=Lib.hid (keepX4 hwsh.out (keepA4d hwsh.out hSp.out) bq))|(replace hSp:=Lib.hid (keepX4 hwsh.out hSp.out bq))))
       |(go_at_call 224;(with_reducible refine (sub_to x2 (Gf.sub x2) hx2 rfl _).mono ?_);rintro e wq ⟨rfl,bq⟩;(first|(replace hN:=Lib.hid (And.intro (hN.out.1.below bq hN.out.1.lt) hN.out.2);obtain ⟨n0,n1,n2,n3⟩:=fourCells hN.out.1;obtain ⟨m0,m1,m2,m3⟩:=fourFree hN.out.1;replace hSp:=Lib.hid (keepX4 hwsh.out hSp.out bq))|(with_reducible have hN:=Lib.hid (newBelow hSp.out bq);obtain ⟨n0,n1,n2,n3⟩:=fourCells hN.out.1;obtain ⟨m0,m1,m2,m3⟩:=fourFree hN.out.1;replace hSp:=Lib.hid (keepX4 hwsh.out (keepA4 hwsh.out hSp.out) bq))|(with_reducible have hN:=Lib.hid (newBelowd hSp.out bq);obtain ⟨n0,n1,n2,n3⟩:=fourCells hN.out.1;obtain ⟨m0,m1,m2,m3⟩:=fourFree hN.out.1;replace hSp:=Lib.hid (keepX4 hwsh.out (keepA4d hwsh.out hSp.out) bq))|(replace hSp:=Lib.hid (keepX4 hwsh.out hSp.out bq))))
       |(go_at_call 224;(with_reducible refine (sub_to x3 (Gf.sub x3) hx3 rfl _).mono ?_);rintro e wq ⟨rfl,bq⟩;(first|(replace hN:=Lib.hid (And.intro (hN.out.1.below bq hN.out.1.lt) hN.out.2);obtain ⟨n0,n1,n2,n3⟩:=fourCells hN.out.1;obtain ⟨m0,m1,m2,m3⟩:=fourFree hN.out.1;replace hSp:=Lib.hid (keepX4 hwsh.out hSp.out bq))|(with_reducible have hN:=Lib.hid (newBelow hSp.out bq);obtain ⟨n0,n1,n2,n3⟩:=fourCells hN.out.1;obtain ⟨m0,m1,m2,m3⟩:=fourFree hN.out.1;replace hSp:=Lib.hid (keepX4 hwsh.out (keepA4 hwsh.out hSp.out) bq))|(with_reducible have hN:=Lib.hid (newBelowd hSp.out bq);obtain ⟨n0,n1,n2,n3⟩:=fourCells hN.out.1;obtain ⟨m0,m1,m2,m3⟩:=fourFree hN.out.1;replace hSp:=Lib.hid (keepX4 hwsh.out (keepA4d hwsh.out hSp.out) bq))|(replace hSp:=Lib.hid (keepX4 hwsh.out hSp.out bq))))
       |(go_at_call 224;(with_reducible refine (sub_to x0 (Gf.sub x0) hx0 rfl _).mono ?_);rintro e wq ⟨rfl,bq⟩;(first|(replace hN:=Lib.hid (And.intro (hN.out.1.below bq hN.out.1.lt) hN.out.2);obtain ⟨n0,n1,n2,n3⟩:=fourCells hN.out.1;obtain ⟨m0,m1,m2,m3⟩:=fourFree hN.out.1;replace hSp:=Lib.hid (keepX4 hwsh.out hSp.out bq))|(with_reducible have hN:=Lib.hid (newBelow hSp.out bq);obtain ⟨n0,n1,n2,n3⟩:=fourCells hN.out.1;obtain ⟨m0,m1,m2,m3⟩:=fourFree hN.out.1;replace hSp:=Lib.hid (keepX4 hwsh.out (keepA4 hwsh.out hSp.out) bq))|(with_reducible have hN:=Lib.hid (newBelowd hSp.out bq);obtain ⟨n0,n1,n2,n3⟩:=fourCells hN.out.1;obtain ⟨m0,m1,m2,m3⟩:=fourFree hN.out.1;replace hSp:=Lib.hid (keepX4 hwsh.out (keepA4d hwsh.out hSp.out) bq))|(replace hSp:=Lib.hid (keepX4 hwsh.out hSp.out bq))))
       |(go_at_call 225;(refine (power_to 2 (K:Int) p2 (by omega) hpz.out _).mono ?_);rintro e wq ⟨rfl,bq⟩;(first|(replace hN:=Lib.hid (And.intro (hN.out.1.below bq hN.out.1.lt) hN.out.2);obtain ⟨n0,n1,n2,n3⟩:=fourCells hN.out.1;obtain ⟨m0,m1,m2,m3⟩:=fourFree hN.out.1;replace hSp:=Lib.hid (keepX4 hwsh.out hSp.out bq))|(with_reducible have hN:=Lib.hid (newBelow hSp.out bq);obtain ⟨n0,n1,n2,n3⟩:=fourCells hN.out.1;obtain ⟨m0,m1,m2,m3⟩:=fourFree hN.out.1;replace hSp:=Lib.hid (keepX4 hwsh.out (keepA4 hwsh.out hSp.out) bq))|(with_reducible have hN:=Lib.hid (newBelowd hSp.out bq);obtain ⟨n0,n1,n2,n3⟩:=fourCells hN.out.1;obtain ⟨m0,m1,m2,m3⟩:=fourFree hN.out.1;replace hSp:=Lib.hid (keepX4 hwsh.out (keepA4d hwsh.out hSp.out) bq))|(replace hSp:=Lib.hid (keepX4 hwsh.out hSp.out bq))))))
    all_goals
     go_wp2_with fail
     go_meet
    all_goals first
     |exact ⟨_,rfl,by rw [hwzh.out];exact Blk.new _ _ _,hSp.out.1.size,hSp.out.1.alloc hSp.out.1.size _⟩
     |exact ⟨_,rfl,by rw [hwzh.out];exact (Blk.new _ _ _).drew,hSp.out.1.size,below_drewN (hSp.out.1.alloc hSp.out.1.size _) 1⟩
     |exact ⟨_,rfl,by rw [hwzh.out];exact (((hN.out.1.set_ 0 _).set_ 1 _).set_ 2 _).set_ 3 _,hN.out.2,(((hSp.out.1.setCell hN.out.2 _).setCell hN.out.2 _).setCell hN.out.2 _).setCell hN.out.2 _⟩
   case rest =>
    obtain ⟨N,rfl,hbN,hN2,hbC⟩:=hcut
    have hX2:=hbXh.out.below hbC hbXh.out.lt
    have hW2:XpMem w.heap.size key (16*(K+1)) w wc:=⟨hbWh.out.r.below hbC hbWh.out.r.lt,hbWh.out.bel.trans (hbC.mono hbWh.out.bel.size)⟩
    have hNX:wr.heap.size≠N:=by have:=hwsh.out;omega
    have hNR:w.heap.size+1≠N:=by have:=hbWh.out.r.lt;omega
    have hXR:w.heap.size+1<wr.heap.size:=hmm.out.r.lt
    have hNG:w.heap.size≤N:=by have:=hbWh.out.bel.size;omega
    have hNh:=Lib.hid hbN
    have hXh:=Lib.hid hX2
    have hWh:=Lib.hid hW2
    have hne1:=Lib.hid hNX
    have hne2:=Lib.hid hNR
    clear hbN hX2 hW2 hbC hSp hpz hxor e0 e1 e2 e3 hx0 hx1 hx2 hx3 hwzh hp2l hNX hNR hwK
    obtain ⟨X,hXe⟩:∃X,wr.heap.size=X:=⟨_,rfl⟩
    rw [hXe] at hXh hne1
    clear hwsh
    go_wp2
    rw [hXe]
    go_loopw [38] (fun s wx=>∃i:Nat,i≤16∧s=.int .i64 (i:Int)∧Blk wx N 378 (va .u8 (Ci.wd b K i))∧Blk wx X 26 (va .u8 b)∧XpMem w.heap.size key (16*(K+1)+i) w wx) (fun s _=>16-(intOf s).toNat)
    case atStart=>exact ⟨0,by omega,rfl,hNh.out,hXh.out,hWh.out⟩
    case round =>
     clear hNh hXh hWh
     obtain ⟨i,hi16,rfl,hN0,hX0,hM0⟩:=hrel
     by_cases hli:i<16
     ·have hliI:(i:Int)<16:=by omega
      obtain ⟨m,hm⟩:∃m,i%4=m:=⟨_,rfl⟩
      have hm4:m<4:=by omega
      have hmI:(i:Int).tmod 4=(m:Int):=by rw [Int.tmod_eq_emod_of_nonneg (by omega)];omega
      have hmE:(i:Int)%4=(m:Int):=by omega
      have hm4I:(m:Int)<4:=by omega
      obtain ⟨hs1,hs2⟩:=Ci.wd_step b K i hli
      have hnx:=Ci.exF_next key K i hli
      rw [hbeh.out] at hnx
      rw [hm] at hs1 hs2 hnx
      obtain ⟨c,hc⟩:∃c,Ci.col b K m (i / 4)=c:=⟨_,rfl⟩
      rw [hc] at hs1 hs2 hnx
      have hc1:=hN0.num (i:=m) (by rw [Ci.wd_len];exact hm4)
      have hf1:=hN0.frozen m
      have hc2:=hX0.num (i:=i) (by omega)
      have hu:=(Ci.wd_byt hbb K i).get m
      have hy:=hbb.get i
      have hxor:bits BinOp.xor IntKind.u8 (((Ci.wd b K i).getD m 0:Nat):Int) ((b.getD i 0:Nat):Int)=(c:Int):=by rw [u8_xor_nat _ _ hu hy,hs2]
      have hN3:Blk (wr.drew.setCell ⟨N,m,none⟩ (.int .u8 (c:Int))) N 378 (va .u8 (Ci.wd b K (i+1))):=by
       have:=hN0.drew.setNum m c
       rw [hs1] at this
       exact this
      have hX3:Blk (wr.drew.setCell ⟨N,m,none⟩ (.int .u8 (c:Int))) X 26 (va .u8 b):=hX0.drew.far hne1.out _
      have hM3:XpMem w.heap.size key (16*(K+1)+i) w (wr.drew.setCell ⟨N,m,none⟩ (.int .u8 (c:Int))):=⟨hM0.r.drew.far hne2.out _,(below_drewN hM0.bel 1).setCell hNG _⟩
      have hg3:(Ci.wd b K (i+1)).getD m 0=c:=by rw [←hs1];exact getD_set_eq (by rw [Ci.wd_len];exact hm4)
      have hN3h:=Lib.hid hN3
      have hX3h:=Lib.hid hX3
      have hM3h:=Lib.hid hM3
      have hg3h:=Lib.hid hg3
      have hnxh:=Lib.hid hnx
      generalize (Ci.wd b K i).getD m 0=u0 at *
      generalize b.getD i 0=y0 at *
      clear hN0 hX0 hM0 hN3 hX3 hM3 hs1 hs2 hnx hg3 hc hm
      go_wp2
      refine wp_region_still_tail 9 (by kernel_rfl) (by kernel_rfl) ?_
      simp only [List.take_succ_cons,List.take_zero,List.drop_succ_cons,List.drop_zero]
      change wpStill _ _ wr.drew _ _ _
      iterate 9 still_step
      refine wpStill_nil ?_
      change wpList _ _ _ _ _ wr.drew
      go_wp2
      have hgz:=hN3h.out.num (i:=m) (by rw [Ci.wd_len];exact hm4)
      rw [hg3h.out] at hgz
      have hK1:(0:Int)≤(K:Int)+1:=by omega
      have hK2:(K:Int)+1<11:=by omega
      have hi176:16*(K+1)+i<176:=by omega
      have hRf:=hM3h.out.r.frozen ((K+1)*16+i)
      have hRl:(va .u8 (Ci.upd (Ci.exF key) z176 (16*(K+1)+i))).size=176:=by rw [va_size,Ci.upd_len,z176_len]
      have hRc:=hM3h.out.r.num (i:=(K+1)*16+i) (by rw [Ci.upd_len,z176_len];omega)
      generalize (Ci.upd (Ci.exF key) z176 (16*(K+1)+i)).getD ((K+1)*16+i) 0=r0 at hRc
      refine wp_region_still_tail 8 (by kernel_rfl) (by kernel_rfl) ?_
      simp only [List.take_succ_cons,List.take_zero,List.drop_succ_cons,List.drop_zero]
      change wpStill _ _ (wr.drew.setCell ⟨N,m,none⟩ (.int .u8 (c:Int))).drew _ _ _
      generalize hw3:wr.drew.setCell ⟨N,m,none⟩ (.int .u8 (c:Int))=w3 at *
      clear hc1 hf1 hc2
      iterate 8 still_step
      refine wpStill_nil ?_
      change wpList _ _ _ _ _ (wr.drew.setCell ⟨N,m,none⟩ (.int .u8 (c:Int))).drew
      rw [hw3]
      clear hw3
      go_wp2
      go_roundw
      case rel =>
       refine ⟨i+1,by omega,by go_num,hN3h.out.drew.far (by have:=hne2.out;simp;omega) _,hX3h.out.drew.far (by simp;omega) _,⟨?_,(below_drewN hM3h.out.bel 1).setCell (by simp<;>omega) _⟩⟩
       have e5:=hM3h.out.r
       have e6:=hnxh.out
       rw [show 16*(K+1)+(i+1)=(16*(K+1)+i)+1 from rfl,←Ci.upd_set]
       rw [show 16*(K+1)+i=(K+1)*16+i from by omega] at e5 e6 ⊢
       rw [e6]
       exact e5.drew.setNum ((K+1)*16+i) c
      case measure=>simp [intOf];omega
     ·obtain rfl:i=16:=by omega
      have hM0h:=Lib.hid hM0
      clear hN0 hX0 hM0
      go_wp2
      go_roundw
      case rel=>exact ⟨K+1,by omega,by go_num,by rw [show 16*(K+1+1)=16*(K+1)+16 from by omega];exact hM0h.out⟩
      case measure=>simp [intOf];omega
  ·obtain rfl:K=10:=by omega
   have hall:Ci.upd (Ci.exF key) z176 (16*(10+1))=Ci.exL key:=Ci.exL_all key z176 z176_len
   obtain ⟨hmr,hmb⟩:=hmem
   rw [hall] at hmr
   have hLl:=Ci.exL_len key
   have hsz0:(Tryz.prog.info? 304).map (·.size)=some (va .u8 (Ci.exL key)).size:=by rw [va_size,hLl];kernel_rfl
   have hszE:=Lib.hid hsz0
   have hst:=run_storeBlk (P:=Tryz.prog) hmr .u8 (Ci.exL key) (by simp [va_size])
   have hvs:(va .u8 (Ci.exL key)).size=176:=by rw [va_size,hLl]
   have hmrh:=Lib.hid hmr
   have hmbh:=Lib.hid hmb
   clear hsz0 hmr hmb hall
   go_wp2_with (refine wpList_load_row rfl 304 (.tmp 2) rfl (w.heap.size+1) rfl 304 (va .u8 (Ci.exL key)) (0,0) _ hmrh.out Tryz.underlying304 rfl hszE.out ?_)
   exact bodyPost_ret (results_cell_row rfl _ _ (w.heap.size+1) 304 (va .u8 (Ci.exL key)) (0,0) _ rfl (hmrh.out.row _) Tryz.underlying304 rfl hszE.out) rfl ⟨rfl,below_setRow hmbh.out (by omega) _⟩
end Go.Proofs.YtjboelhcieepkaaGreatDoor
namespace Go.Proofs.YtjboelhcieepkaaGreatDoor
set_option maxRecDepth 16384
open Go.RowKit
noncomputable def fExp(args:List SV):Option SV:=match args with
 |[.a c]=>(match bytesP c with
  |some x=>match _h:Nat.beq x.n 16 with
   |true=>some (.a (.q (.byt ⟨Ci.exL x.l,176,Ci.exL_len _,Ci.exL_byt x.hb⟩)))
   |false=>none
  |none=>none)
 |_=>none
theorem exp_leaf:LeafOk Xt 165 (leafV fExp):=leafV_ok (enters (by kernel_rfl)) fun args y hf r vals w hd hg=>by
 unfold fExp at hf
 split at hf
 ·split at hf
  ·rename_i c x hx
   split at hf
   ·rename_i hq
    cases hf
    rw [beq_iff,decide_eq_true_eq] at hq
    cases hd with
    |cons d1 t =>
     cases t
     cases d1 with
     |a d1 =>
      obtain rfl:=bytesP_ok hx d1
      refine (expand_any x.l (by rw [x.hl,hq]) x.hb w).mono ?_
      rintro e w' ⟨rfl,h2⟩
      exact ⟨_,rfl,.a (.q (.byt ⟨Ci.exL x.l,176,Ci.exL_len _,Ci.exL_byt x.hb⟩)),h2⟩
   ·cases hf
  ·cases hf
 ·cases hf
noncomputable def tab7:List (FuncId×Leaf):=(165,leafV fExp)::tab6
theorem tab7_ok:∀p∈tab7,LeafOk Xt p.1 p.2:=by
 intro p hp
 rcases List.mem_cons.1 hp with rfl|hp
 ·exact exp_leaf
 ·exact tab6_ok p hp
end Go.Proofs.YtjboelhcieepkaaGreatDoor
namespace Go.Proofs.YtjboelhcieepkaaGreatDoor
set_option maxRecDepth 16384
open Go.RowKit Sh
def Own(w:World)(B0:Nat)(A:Option Addr)(n c:Nat)(l:List Nat):Prop:=w.ownsRow B0 5 1 (.slice A n c) n (nv .u8 l)
def Off(A:Option Addr)(x:Nat):Prop:=∀a,A=some a→a.block≠x
section
variable {w w':World}{B0 n c:Nat}{A:Option Addr}{l:List Nat}
theorem ob_of(A:Option Addr)(n c k:Nat):(Value.slice A n c).ownBlock=some k↔∃a,A=some a∧a.block=k:=by
 cases A<;>simp [Value.ownBlock]
theorem Off.ob{x:Nat}(h:Off A x)(n c:Nat):some x≠(Value.slice A n c).ownBlock:=fun e=>by
 obtain ⟨a,ha,hb⟩:=(ob_of A n c x).1 e.symm
 exact h a ha hb
theorem Off.nil(x:Nat):Off none x:=fun _ h=>by cases h
theorem Own.cap(h:Own w B0 A n c l):n≤c:=by
 rcases h.2 with ⟨e,h0⟩|⟨g,cap,cur,e,_,_,hc,_⟩
 ·omega
 ·injection e with _ _ e3;omega
theorem Own.lt(h:Own w B0 A n c l){a:Addr}(ha:A=some a):B0≤a.block∧a.block<w.heap.size :=
 World.ownsRow.lt h a.block ((ob_of A n c _).2 ⟨a,ha,rfl⟩)
theorem Own.kept{row:Option Nat}(h:Own w B0 A n c l)(hg:w.grownBy w' row)(hne:∀a,A=some a→some a.block≠row):Own w' B0 A n c l:=by
 refine World.ownsRow.kept h hg ?_
 cases A with
 |none=>exact .inl rfl
 |some a=>exact .inr (hne a rfl)
theorem grown_of_below{w w':World}(h:Below w.heap.size w w'):w.grownBy w' none:=⟨h.os,h.tape,h.output,h.size,fun k hk _=>h.block k hk⟩
theorem Own.below(h:Own w B0 A n c l)(bx:Below w.heap.size w w'):Own w' B0 A n c l:=h.kept (grown_of_below bx) (fun _ _=>by simp)
theorem Own.alloc(h:Own w B0 A n c l)(o:Obj):Own (w.alloc o) B0 A n c l:=World.ownsRow.alloc h o
theorem Own.drew_(h:Own w B0 A n c l):Own w.drew B0 A n c l:=h
theorem grown_row(w:World)(g:Nat)(cs:Array Value):w.grownBy (w.setRow g cs) (some g):=⟨rfl,rfl,rfl,by simp [World.setRow],fun k _ hne=>setRow_other w g cs k (fun e=>hne (by rw [e]))⟩
theorem Own.rowFar{g:Nat}(h:Own w B0 A n c l)(hne:Off A g)(cs:Array Value):Own (w.setRow g cs) B0 A n c l :=
 h.kept (grown_row w g cs) (fun a ha e=>hne a ha (Option.some.inj e))
theorem Own.reads(h:Own w B0 A n c l):Reads w w.heap.size 1 A n (nv .u8 l):=Reads.of_own h
theorem Own.nil(w:World)(B0:Nat):Own w B0 none 0 0 []:=World.ownsRow_nil w B0 _ _
theorem Own.new_off(h:Own w B0 A n c l):Off A w.heap.size:=fun a ha e=>by have:=(h.lt ha).2;omega
theorem Own.off_ge(h:Own w B0 A n c l){x:Nat}(hx:w.heap.size≤x):Off A x:=fun a ha e=>by have:=(h.lt ha).2;omega
theorem Blk.owned{g:Nat}(h:Blk w g 5 (va .u8 l))(hn:l.length=n)(hb:B0≤g)(hm:n≤maxLen):Own w B0 (some ⟨g,0,none⟩) n n l:=Blk.own h hn hb hm
theorem Own.form(h:Own w B0 A n c l):A=none∧n=0∧c=0∨∃g,A=some ⟨g,0,none⟩∧B0≤g∧g<w.heap.size:=by
 rcases h.2 with ⟨e,h0⟩|⟨g,cap,cur,e,hb,hh,_⟩
 ·injection e with e1 e2 e3
  exact .inl ⟨e1,h0,e3⟩
 ·injection e with e1
  exact .inr ⟨g,e1,hb,(Array.getElem?_eq_some_iff.1 hh).1⟩
theorem own_append(h:Own w B0 A n c l)(A2:Option Addr)(n2 c2 B:Nat)(m:List Nat)(hr:Reads w B 1 A2 n2 (nv .u8 m))(hB0:B0≤w.heap.size)(new:List Nat)(hnew:l++m=new)(N:Nat)(hN:n+n2=N)(hmax:N≤100000000)(ty:TypeId):
 ∃A' c' w',(Builtin.append_ #[23,23] ty #[.slice A n c,.slice A2 n2 c2]).run Tryz.prog w=.ok (.slice A' N c') w'∧Own w' B0 A' N c' new∧N≤c'∧w.grownBy w' (Value.slice A n c).ownBlock ∧
  ∀x,Off A x→x<w.heap.size→Off A' x:=by
 subst hnew hN
 obtain ⟨i0,hi0,hz0,hz1,hz2⟩:=info_parts byte_info
 obtain ⟨v',w',hrun,h2,h3,h4⟩:=run_append_any (P:=Tryz.prog) w B0 23 ty 5 i0 (.int .u8 0) 1 1 Tryz.underlying23 hi0 hz0 hz1 hz2 rfl (by omega) (.slice A n c) n (nv .u8 l) h B A2 n2 c2 (nv .u8 m) hr (nv_one _ _)
  (by unfold maxLen;omega) (by omega) hB0
 have hf:∃A' c',v'=.slice A' (n+n2) c'∧n+n2≤c':=by
  rcases h2.2 with ⟨e,h0⟩|⟨g,cap,cur,e,_,_,hc,_⟩
  ·exact ⟨none,0,by rw [e,h0],by omega⟩
  ·exact ⟨_,_,e,hc⟩
 obtain ⟨A',c',rfl,hc⟩:=hf
 rw [nv_app] at h2
 refine ⟨A',c',w',hrun,h2,hc,h3,fun x hx hlt a ha e=>?_⟩
 have h5:(Value.slice A' (n+n2) c').ownBlock=some x:=(ob_of _ _ _ _).2 ⟨a,ha,e⟩
 rcases h4 with h4|h4
 ·rw [h4] at h5
  exact hx.ob n c h5.symm
 ·rw [h4] at h5
  have:=Option.some.inj h5
  omega
theorem Own.belowG{B:Nat}{a:World}(hW:Below B a w)(hB:B≤w.heap.size)(hA:∀k,(Value.slice A n c).ownBlock=some k→B≤k)(hg:w.grownBy w' (Value.slice A n c).ownBlock):Below B a w':=hW.grown hg hB hA
theorem Own.from_(h:Own w B0 A n c l):∀k,(Value.slice A n c).ownBlock=some k→B0≤k:=fun k hk=>(World.ownsRow.lt h k hk).1
theorem ByB.grown{g:Nat}{row:Option Nat}{m:List Nat}(h:ByB w g m)(hb:w.grownBy w' row)(hg:some g≠row):ByB w' g m :=
 ⟨Nat.lt_of_lt_of_le h.lt hb.size,fun j v hv=>(World.cell?_of_block (a:=⟨g,j,none⟩) (hb.block g h.lt hg)).trans (h.c j v hv)⟩
theorem Own.grown{A2:Option Addr}{n2 c2:Nat}(h:Own w B0 A n c l)(hb:w.grownBy w' (Value.slice A2 n2 c2).ownBlock)(hne:∀a,A=some a→Off A2 a.block):Own w' B0 A n c l :=
 h.kept hb (fun a ha=>(hne a ha).ob n2 c2)
theorem Own.new_sep{A2:Option Addr}{n2 c2:Nat}{l2:List Nat}(_h:Own w B0 A n c l)(_h2:Own w B0 A2 n2 c2 l2)(hs:∀a,A=some a→Off A2 a.block):∀a,A2=some a→Off A a.block:=fun a ha b hb e=>hs b hb a ha e.symm
theorem Own.readsAt{g:Nat}(h:Own w B0 (some ⟨g,0,none⟩) n c l)(o m:Nat)(hm:o+m≤n):Reads w w.heap.size 1 (some ⟨g,o,none⟩) m (nv .u8 ((l.drop o).take m)):=by
 have h1:=h.reads.part (o:=o) (m:=m) hm
 rwa [add_none,Nat.zero_add] at h1
theorem Own.byB{g:Nat}(h:Own w B0 (some ⟨g,0,none⟩) n c l):ByB w g l :=
 ⟨(h.lt rfl).2,fun j v hv=>by
  have h1:=World.ownsRow.cells h (g:=g) rfl j v hv
  rwa [add_none,Nat.zero_add] at h1⟩
theorem ByB.num{g i:Nat}(h:ByB w g l)(hi:i<l.length):w.cell? ⟨g,i,none⟩=some (.int .u8 ((l.getD i 0:Nat):Int)):=h.c i _ (nv_get hi)
end
end Go.Proofs.YtjboelhcieepkaaGreatDoor
namespace Go.Proofs.YtjboelhcieepkaaGreatDoor
set_option maxRecDepth 16384
open Go.RowKit
def Inner(w:World)(B0 M:Nat)(v:Value)(x:Option VCnt):Prop :=
 ∃b m c vs,v=.slice (some ⟨b,0,none⟩) (m+1) c∧m≤M∧vs.length=2*m∧(∀u∈vs,u.oneCell'=true)∧w.ownsRow B0 121 2 v (m+1) (vs++vV x)
theorem vV_len(x:Option VCnt):(vV x).length=2:=by cases x<;>rfl
theorem vV_one(x:Option VCnt):∀u∈vV x,u.oneCell'=true:=by
 intro u hu
 cases x with
 |none =>
  simp only [vV,List.mem_cons,List.not_mem_nil,or_false] at hu
  rcases hu with rfl|rfl<;>rfl
 |some b =>
  simp only [vV,List.mem_cons,List.not_mem_nil,or_false] at hu
  rcases hu with rfl|rfl<;>rfl
theorem Inner.from_{w:World}{B0 M:Nat}{v:Value}{x:Option VCnt}(h:Inner w B0 M v x):∀j,v.ownBlock=some j→B0≤j:=by
 obtain ⟨b,m,c,vs,rfl,_,_,_,ho⟩:=h
 exact fun j hj=>(World.ownsRow.lt ho j hj).1
theorem Inner.more{w:World}{B0 M:Nat}{v:Value}{x:Option VCnt}(h:Inner w B0 M v x):Inner w B0 (M+1) v x:=by
 obtain ⟨b,m,c,vs,e,h1,h2⟩:=h
 exact ⟨b,m,c,vs,e,Nat.le_succ_of_le h1,h2⟩
theorem Inner.kept{w w':World}{B0 M:Nat}{v:Value}{x:Option VCnt}{row:Option Nat}(h:Inner w B0 M v x)(hg:w.grownBy w' row)(hne:∀g,row=some g→∀cur,w.heap[g]?≠some (.cells cur 121 (0,0))):Inner w' B0 M v x:=by
 obtain ⟨b,m,c,vs,rfl,hm,hl,h1,ho⟩:=h
 refine ⟨b,m,c,vs,rfl,hm,hl,h1,World.ownsRow.kept ho hg (.inr fun e=>?_)⟩
 rcases ho.2 with ⟨e1,_⟩|⟨g,cap,cur,e1,_,hh,_⟩
 ·cases e1
 ·cases e1
  exact hne b e.symm cur hh
theorem Inner.below{w w':World}{B0 M:Nat}{v:Value}{x:Option VCnt}(h:Inner w B0 M v x)(bx:Below w.heap.size w w'):Inner w' B0 M v x:=h.kept (grown_of_below bx) (fun g e=>by cases e)
def Inns(w:World)(B0 M:Nat)(outs:List Value)(xs:List (Option VCnt)):Prop:=outs.length=xs.length∧∀(j:Nat) v x,outs[j]?=some v→xs[j]?=some x→Inner w B0 M v x
theorem Inns.nil(w:World)(B0 M:Nat):Inns w B0 M [] []:=⟨rfl,fun j v x h=>by simp at h⟩
theorem Inns.kept{w w':World}{B0 M:Nat}{outs:List Value}{xs:List (Option VCnt)}{row:Option Nat}(h:Inns w B0 M outs xs)(hg:w.grownBy w' row)(hne:∀g,row=some g→∀cur,w.heap[g]?≠some (.cells cur 121 (0,0))):Inns w' B0 M outs xs :=
 ⟨h.1,fun j v x h1 h2=>(h.2 j v x h1 h2).kept hg hne⟩
theorem Inns.below{w w':World}{B0 M:Nat}{outs:List Value}{xs:List (Option VCnt)}(h:Inns w B0 M outs xs)(bx:Below w.heap.size w w'):Inns w' B0 M outs xs:=h.kept (grown_of_below bx) (fun g e=>by cases e)
theorem Inns.snoc{w:World}{B0 M:Nat}{outs:List Value}{xs:List (Option VCnt)}{v:Value}{x:Option VCnt}(h:Inns w B0 M outs xs)(hv:Inner w B0 M v x):Inns w B0 M (outs++[v]) (xs++[x]):=by
 refine ⟨by simp [h.1],fun j u y h1 h2=>?_⟩
 rcases Nat.lt_or_ge j outs.length with hj|hj
 ·rw [List.getElem?_append_left hj] at h1
  rw [List.getElem?_append_left (by rw [←h.1];exact hj)] at h2
  exact h.2 j u y h1 h2
 ·rw [List.getElem?_append_right hj] at h1
  rw [List.getElem?_append_right (by rw [←h.1];exact hj),←h.1] at h2
  cases hq:j-outs.length with
  |zero=>rw [hq] at h1 h2;cases h1;cases h2;exact hv
  |succ n=>rw [hq] at h1;cases h1
theorem Inns.ref{w:World}{B0 M g n c:Nat}{outs:List Value}{xs:List (Option VCnt)}{cv:Nat→Prop}(h:Inns w B0 M outs xs)(ho:w.ownsRow B0 221 1 (.slice (some ⟨g,0,none⟩) n c) n outs)(hcv:∀k,B0≤k→k<w.heap.size→cv k):refAt M w g cv xs:=by
 intro k x hx
 have hk:k<outs.length:=by rw [h.1];exact (List.getElem?_eq_some_iff.1 hx).1
 obtain ⟨b,m,c',vs,e,hm,hl,h1,how⟩:=h.2 k outs[k] x (List.getElem?_eq_getElem hk) hx
 have hc:=World.ownsRow.cells ho (g:=g) rfl k outs[k] (List.getElem?_eq_getElem hk)
 rw [add_none,Nat.zero_add,e] at hc
 rw [e] at how
 have hlt:=World.ownsRow.lt how b rfl
 have hcap:m+1≤c':=by
  rcases how.2 with ⟨e1,_⟩|⟨g2,cap,cur,e1,_,_,hc,_⟩
  ·cases e1
  ·cases e1;exact hc
 refine ⟨b,m,c',vs,hc,hm,hcap,hcv b hlt.1 hlt.2,hl,h1,fun j v hv=>?_⟩
 have:=World.ownsRow.cells how (g:=b) rfl j v hv
 rwa [add_none,Nat.zero_add] at this
theorem v_info:(Tryz.prog.info? 121).map (fun i=>(i.zero,i.size,i.bytes))=some (some (.agg (vV none).toArray),2,24):=by kernel_rfl
theorem sv_info:(Tryz.prog.info? 221).map (fun i=>(i.zero,i.size,i.bytes))=some (some (.slice none 0 0),1,24):=by kernel_rfl
theorem zv_D(w:World):(zeroValue 31).run Tryz.prog w=.ok (.agg #[.slice none 0 0]) w:=by kernel_rfl
theorem vV_sz(x:Option VCnt):(Tryz.prog.info? 121).map (·.size)=some (vV x).toArray.size:=by cases x<;>kernel_rfl
theorem app_copy{w:World}{B0 N b m c:Nat}{vs:List Value}{x:Option VCnt}(hB0:B0≤w.heap.size)(hN:m≤N)(hN1:N≤1000)(hl:vs.length=2*m)(h1:∀u∈vs,u.oneCell'=true)(_hb:b<w.heap.size)
 (hc:∀(j:Nat) v,(vs++vV x)[j]?=some v→w.cell? ⟨b,j,none⟩=some v) (ty:TypeId) :
 ∃v2 w2,(Builtin.append_ #[221,221] ty #[.slice none 0 0,.slice (some ⟨b,0,none⟩) (m+1) c]).run Tryz.prog w=.ok v2 w2∧Inner w2 B0 N v2 x∧Below w.heap.size w w2:=by
 obtain ⟨i0,hi0,hz0,hz1,hz2⟩:=info_parts v_info
 have hr:Reads w (b+1) 2 (some ⟨b,0,none⟩) (m+1) (vs++vV x):=⟨by rw [List.length_append,hl,vV_len];omega,fun _=>⟨_,rfl,Nat.lt_succ_self _,fun j v hv=>by rw [add_none,Nat.zero_add];exact hc j v hv⟩⟩
 obtain ⟨v2,w2,hrun,h2,h3,h4⟩:=run_append_any (P:=Tryz.prog) w B0 221 ty 121 i0 _ 2 24 Tryz.underlying221 hi0 hz0 hz1 hz2 (by rfl) (by omega) (.slice none 0 0) 0 [] (World.ownsRow_nil w _ _ _) (b+1) (some ⟨b,0,none⟩) (m+1) c (vs++vV x) hr
  (fun u hu=>(List.mem_append.1 hu).elim (h1 u) (vV_one x u)) (by unfold maxLen;omega) (by omega) hB0
 have hform:∃g2 c2,v2=.slice (some ⟨g2,0,none⟩) (m+1) c2:=by
  rcases h2.2 with ⟨_,h0⟩|⟨g2,cap,cur,e,_⟩
  ·omega
  ·exact ⟨g2,cap,by rw [e,Nat.zero_add]⟩
 obtain ⟨g2,c2,rfl⟩:=hform
 rw [Nat.zero_add,List.nil_append] at h2
 exact ⟨_,w2,hrun,⟨g2,m,c2,vs,rfl,hN,hl,h1,h2⟩,⟨h3.os,h3.tape,h3.output,h3.size,fun k hk=>h3.block k hk (by intro e;cases e)⟩⟩
theorem app_one{w:World}{B0 N q:Nat}{v:Value}{x0 x:Option VCnt}(hB0:B0≤w.heap.size)(hN1:N≤1000)(h:Inner w B0 N v x0)(hq:Blk w q 121 (vV x).toArray)(ty:TypeId):
 ∃v2 w2,(Builtin.append_ #[221,221] ty #[v,.slice (some ⟨q,0,none⟩) 1 1]).run Tryz.prog w=.ok v2 w2∧Inner w2 B0 (N+1) v2 x∧w.grownBy w2 v.ownBlock:=by
 obtain ⟨i0,hi0,hz0,hz1,hz2⟩:=info_parts v_info
 obtain ⟨b,m,c,vs,rfl,hm,hl,h1,ho⟩:=h
 have hr:Reads w (q+1) 2 (some ⟨q,0,none⟩) 1 (vV x):=⟨by rw [vV_len],fun _=>⟨_,rfl,Nat.lt_succ_self _,fun j u hu=>by rw [add_none,Nat.zero_add,hq.cell];simpa using hu⟩⟩
 obtain ⟨v2,w2,hrun,h2,h3,h4⟩:=run_append_any (P:=Tryz.prog) w B0 221 ty 121 i0 _ 2 24 Tryz.underlying221 hi0 hz0 hz1 hz2 (by rfl) (by omega) (.slice (some ⟨b,0,none⟩) (m+1) c) (m+1) (vs++vV x0) ho (q+1) (some ⟨q,0,none⟩) 1 1 (vV x) hr
  (vV_one x) (by unfold maxLen;omega) (by omega) hB0
 have hform:∃g2 c2,v2=.slice (some ⟨g2,0,none⟩) (m+1+1) c2:=by
  rcases h2.2 with ⟨_,h0⟩|⟨g2,cap,cur,e,_⟩
  ·omega
  ·exact ⟨g2,cap,e⟩
 obtain ⟨g2,c2,rfl⟩:=hform
 exact ⟨_,w2,hrun,⟨g2,m+1,c2,vs++vV x0,rfl,by omega,by rw [List.length_append,hl,vV_len];omega,fun u hu=>(List.mem_append.1 hu).elim (h1 u) (vV_one x0 u),h2⟩,h3⟩
theorem app_list{w:World}{B0 k q:Nat}{u v:Value}{outs:List Value}(hB0:B0≤w.heap.size)(hk:k≤1000)(ho:w.ownsRow B0 221 1 u k outs)(hv:v.oneCell'=true)(hq:Blk w q 221 #[v])(ty:TypeId):
 ∃u2 w2 c2 g2,(Builtin.append_ #[29,29] ty #[u,.slice (some ⟨q,0,none⟩) 1 1]).run Tryz.prog w=.ok u2 w2∧u2=.slice (some ⟨g2,0,none⟩) (k+1) c2∧w2.ownsRow B0 221 1 u2 (k+1) (outs++[v])∧w.grownBy w2 u.ownBlock:=by
 obtain ⟨i0,hi0,hz0,hz1,hz2⟩:=info_parts sv_info
 have hr:Reads w (q+1) 1 (some ⟨q,0,none⟩) 1 [v]:=⟨rfl,fun _=>⟨_,rfl,Nat.lt_succ_self _,fun j u hu=>by rw [add_none,Nat.zero_add,hq.cell];simpa using hu⟩⟩
 have key:∃v',∃w2,(Builtin.append_ #[29,29] ty #[u,.slice (some ⟨q,0,none⟩) 1 1]).run Tryz.prog w=.ok v' w2∧w2.ownsRow B0 221 1 v' (k+1) (outs++[v])∧w.grownBy w2 u.ownBlock∧(v'.ownBlock=u.ownBlock∨v'.ownBlock=some w.heap.size) :=
  run_append_any (P:=Tryz.prog) w B0 29 ty 221 i0 _ 1 24 Tryz.underlying29 hi0 hz0 hz1 hz2 (by rfl) (by omega) u k outs ho (q+1) (some ⟨q,0,none⟩) 1 1 [v] hr
  (fun x hx=>by rw [List.mem_singleton] at hx;rw [hx];exact hv) (by unfold maxLen;omega) (by omega) hB0
 obtain ⟨u2,w2,hrun,h2,h3,h4⟩:=key
 have hform:∃g2 c2,u2=.slice (some ⟨g2,0,none⟩) (k+1) c2:=by
  rcases h2.2 with ⟨_,h0⟩|⟨g2,cap,cur,e,_⟩
  ·omega
  ·exact ⟨g2,cap,e⟩
 obtain ⟨g2,c2,rfl⟩:=hform
 exact ⟨_,w2,c2,g2,hrun,rfl,h2,h3⟩
theorem bs_V(x:Option VCnt)(W:World):(Instr.buildSlice 221 1 #[(0,.agg (vV x).toArray)]).run Tryz.prog W=.ok (.slice (some ⟨W.heap.size,0,none⟩) 1 1) (W.alloc (.cells (vV x).toArray 121)):=by
 obtain ⟨ie,hie,h0,h1,h2⟩:=info_parts v_info
 refine run_buildSlice W _ 121 1 _ (vV x).toArray ie _ Tryz.underlying221 hie h0 (by rw [h1];decide) (by rw [h1];decide) ?_
 rw [h1]
 cases x<;>kernel_rfl
theorem bs_S(a:Addr)(n c:Nat)(W:World):(Instr.buildSlice 29 1 #[(0,.slice (some a) n c)]).run Tryz.prog W=.ok (.slice (some ⟨W.heap.size,0,none⟩) 1 1) (W.alloc (.cells #[.slice (some a) n c] 221)):=by
 obtain ⟨ie,hie,h0,h1,h2⟩:=info_parts sv_info
 refine run_buildSlice W _ 221 1 _ #[.slice (some a) n c] ie _ Tryz.underlying29 hie h0 (by rw [h1];decide) (by rw [h1];decide) ?_
 rw [h1]
 kernel_rfl
theorem ownS_ne{w:World}{B0 k p:Nat}{u:Value}{outs:List Value}{T:TypeId}{cs:Array Value}(ho:w.ownsRow B0 221 1 u k outs)(hb:Blk w p T cs)(hT:T≠221):some p≠u.ownBlock:=by
 rcases ho.2 with ⟨rfl,_⟩|⟨g,cap,cur,rfl,_,hh,_⟩
 ·simp [Value.ownBlock]
 ·intro e
  have e2:p=g:=Option.some.inj e
  subst e2
  unfold Blk at hb
  rw [hb] at hh
  cases hh
  exact hT rfl
theorem ownS_notV{w:World}{B0 k:Nat}{u:Value}{outs:List Value}(ho:w.ownsRow B0 221 1 u k outs):∀g,u.ownBlock=some g→∀cur,w.heap[g]?≠some (.cells cur 121 (0,0)):=by
 intro g hg cur e
 rcases ho.2 with ⟨rfl,_⟩|⟨g',cap,cur',rfl,_,hh,_⟩
 ·cases hg
 ·cases hg
  rw [hh] at e
  have:(221:TypeId)≠121:=by decide
  cases e
theorem round_end{w wr w':World}{B0 N k g m c p3 p5 p6 p7:Nat}{u v:Value}{outs:List Value}{xs:List (Option VCnt)}{x x':Option VCnt}(hB0:B0≤w.heap.size)(hk:k≤1000)(lw7:B0≤p7)
 (hp3:Blk wr p3 31 #[.slice (some ⟨g,0,none⟩) m c]) (hp5:Blk wr p5 121 (vV x).toArray) (hp6:Blk wr p6 31 #[.slice none 0 0]) (hp7:Blk wr p7 31 #[u]) (n37:p3≠p7) (n57:p5≠p7) (n67:p6≠p7)
 (hu:wr.ownsRow B0 221 1 u k outs) (hin:Inns wr B0 N outs xs) (hW:Below B0 w wr) (bx:Below wr.heap.size wr w') (hv:Inner w' wr.heap.size N v x') (ty:TypeId) :
 ∃a n cc u2 w6,v=.slice (some a) n cc∧(Builtin.append_ #[29,29] ty #[u,.slice (some ⟨w'.heap.size,0,none⟩) 1 1]).run Tryz.prog (w'.alloc (.cells #[v] 221))=.ok u2 w6∧(∃g2 c2,u2=.slice (some ⟨g2,0,none⟩) (k+1) c2)∧Blk w' p7 31 #[u]∧Blk w6 p7 31 #[u] ∧
  Blk (w6.setCell ⟨p7,0,none⟩ u2) p3 31 #[.slice (some ⟨g,0,none⟩) m c]∧Blk (w6.setCell ⟨p7,0,none⟩ u2) p5 121 (vV x).toArray∧Blk (w6.setCell ⟨p7,0,none⟩ u2) p6 31 #[.slice none 0 0]∧Blk (w6.setCell ⟨p7,0,none⟩ u2) p7 31 #[u2] ∧
  (w6.setCell ⟨p7,0,none⟩ u2).ownsRow B0 221 1 u2 (k+1) (outs++[v])∧Inns (w6.setCell ⟨p7,0,none⟩ u2) B0 N (outs++[v]) (xs++[x'])∧Below B0 w (w6.setCell ⟨p7,0,none⟩ u2):=by
 have hBw:=Nat.le_trans hB0 hW.size
 have hu':=World.ownsRow.kept hu (grown_of_below bx) (by cases u.ownBlock<;>simp)
 have hin':=hin.below bx
 have q3:=hp3.below bx hp3.lt
 have q5:=hp5.below bx hp5.lt
 have q6:=hp6.below bx hp6.lt
 have q7:=hp7.below bx hp7.lt
 have hW':=hW.trans (bx.mono hBw)
 have hBw':=Nat.le_trans hB0 hW'.size
 have hv':Inner w' B0 N v x':=by
  obtain ⟨b,m0,c0,vs,rfl,h1,h2,h3,h4⟩:=hv
  refine ⟨b,m0,c0,vs,rfl,h1,h2,h3,h4.1,?_⟩
  rcases h4.2 with h0|⟨g2,cap,cur,e,hg,r⟩
  ·exact .inl h0
  ·exact .inr ⟨g2,cap,cur,e,Nat.le_trans hBw hg,r⟩
 obtain ⟨a,n,cc,rfl⟩:∃a n cc,v=.slice (some a) n cc:=by
  obtain ⟨b,m0,c0,vs,rfl,_⟩:=hv
  exact ⟨_,_,_,rfl⟩
 have bA:Below w'.heap.size w' (w'.alloc (.cells #[.slice (some a) n cc] 221)):=(Below.refl _ _).alloc (Nat.le_refl _) _
 have hq:=Blk.new w' 221 #[.slice (some a) n cc]
 obtain ⟨u2,w6,c2,g2,hrun,e2,ho2,hgr⟩:=app_list (Nat.le_trans hBw' bA.size) hk (World.ownsRow.alloc hu' _) rfl hq ty
 have huA:=World.ownsRow.alloc hu' (.cells #[.slice (some a) n cc] 221)
 have r3:=(q3.alloc (.cells #[.slice (some a) n cc] 221)).grown hgr (ownS_ne huA (q3.alloc _) (by decide))
 have r5:=(q5.alloc (.cells #[.slice (some a) n cc] 221)).grown hgr (ownS_ne huA (q5.alloc _) (by decide))
 have r6:=(q6.alloc (.cells #[.slice (some a) n cc] 221)).grown hgr (ownS_ne huA (q6.alloc _) (by decide))
 have r7:=(q7.alloc (.cells #[.slice (some a) n cc] 221)).grown hgr (ownS_ne huA (q7.alloc _) (by decide))
 have hinA:=((hin'.below bA).snoc (hv'.below bA)).kept hgr (fun g hg=>ownS_notV huA g hg)
 have hW6:=(hW'.alloc hBw' (.cells #[.slice (some a) n cc] 221)).grown hgr (Nat.le_trans hBw' bA.size) (fun j hj=>(World.ownsRow.lt huA j hj).1)
 have gS:w6.grownBy (w6.setCell ⟨p7,0,none⟩ u2) (some p7):=⟨rfl,rfl,rfl,by simp [World.setCell],fun k _ hk=>Below.heap_setCell w6 _ u2 k (fun e=>hk (by rw [e]))⟩
 refine ⟨a,n,cc,u2,w6,rfl,hrun,⟨g2,c2,e2⟩,q7,r7,r3.far (p:=⟨p7,0,none⟩) n37 _,r5.far (p:=⟨p7,0,none⟩) n57 _,r6.far (p:=⟨p7,0,none⟩) n67 _,r7.set_ 0 _,?_,hinA.kept gS (fun g hg cur e=>?_),hW6.setCell (p:=⟨p7,0,none⟩) lw7 _⟩
 ·exact World.ownsRow.kept ho2 gS (.inr fun e=>ownS_ne ho2 r7 (by decide) e.symm)
 ·cases hg
  unfold Blk at r7
  rw [r7] at e
  cases e
end Go.Proofs.YtjboelhcieepkaaGreatDoor
namespace Go.Proofs.YtjboelhcieepkaaGreatDoor
set_option maxRecDepth 16384
open Go.RowKit Sh
set_option maxRecDepth 100000 in
set_option maxHeartbeats 1600000 in
theorem rwith_any(N g m c s:Nat)(cv:Nat→Prop)(l:List (Option VCnt))(x:Option VCnt)(hl:l.length=m)(hm:m≤1000)(hm0:0<m)(hN:N≤1000)(hs:s≤100000)(w:World)(hg:g<w.heap.size)(hcv:∀k,cv k→k<w.heap.size)(h:refAt N w g cv l):
 Calls Tryz.prog 33 #[.agg #[.slice (some ⟨g,0,none⟩) m c],.int .i64 (s:Int),.agg (vV x).toArray] w fun e w'=>∃g' c',e=.returned (.agg #[.slice (some ⟨g',0,none⟩) m c'])∧m≤c'∧w.heap.size≤g'∧g'<w'.heap.size∧refAt (N+1) w' g' (fun k=>w.heap.size≤k∧k<w'.heap.size) (l.set s x)∧Below w.heap.size w w':=by
 obtain ⟨B0,hB0e,hW,hB0⟩:=stB w
 rw [hB0e]
 have rd:Hid (∀W,Below B0 w W→refAt N W g cv l):=Lib.hid fun W hb=>ghT_s 0 N w W g cv l h (hb.block g (by omega)) (fun k hk=>hb.block k (by have:=hcv k hk;omega))
 clear h
 have hcvB:∀k,cv k→k<B0:=fun k hk=>by have:=hcv k hk;omega
 have hB0q:=Lib.hid hB0e
 clear hB0e
 go_enter Tryz.func33,Tryz.ntmps33
 go_upto_region 0 with fail
 refine wl_lit ?_
 refine runWL 3 (.pointer (some ⟨w.heap.size,0,none⟩)) (w.alloc (.cells (#[.slice (some ⟨g,0,none⟩) m c]) 31)) rfl (by rfl) (exec_box 31 (.tmp 0) rfl (.agg (#[.slice (some ⟨g,0,none⟩) m c])) rfl) ?_
 simp only [Ls]
 have lw_p3:=Nat.le_trans hB0 hW.size
 have hp3:=Blk.new w 31 (#[.slice (some ⟨g,0,none⟩) m c])
 replace hW:=alB hW hB0 (.cells (#[.slice (some ⟨g,0,none⟩) m c]) 31)
 generalize w.alloc (.cells (#[.slice (some ⟨g,0,none⟩) m c]) 31)=w1 at *
 generalize w.heap.size=p3 at hp3 lw_p3  ⊢
 refine runWL 5 (.pointer (some ⟨w1.heap.size,0,none⟩)) (w1.alloc (.cells ((vV x).toArray) 121)) rfl (by rfl) (exec_box 121 (.tmp 2) rfl (.agg ((vV x).toArray)) rfl) ?_
 simp only [Ls]
 have lp3_p5:=hp3.lt
 have lw_p5:=Nat.le_trans hB0 hW.size
 have hp5:=Blk.new w1 121 ((vV x).toArray)
 have bx:=bAl w1 (.cells ((vV x).toArray) 121)
 replace hp3:=blB hp3 bx
 replace hW:=trB hW hB0 bx
 clear bx
 generalize w1.alloc (.cells ((vV x).toArray) 121)=w2 at *
 generalize w1.heap.size=p5 at hp5 lw_p5 lp3_p5 ⊢
 refine runWL 6 (.pointer (some ⟨w2.heap.size,0,none⟩)) (w2.alloc (.cells (#[.slice none 0 0]) 31)) rfl (by rfl) (exec_allocV 31 rfl _ (zv_D _)) ?_
 simp only [Ls]
 have lp3_p6:=hp3.lt
 have lp5_p6:=hp5.lt
 have lw_p6:=Nat.le_trans hB0 hW.size
 have hp6:=Blk.new w2 31 (#[.slice none 0 0])
 have bx:=bAl w2 (.cells (#[.slice none 0 0]) 31)
 replace hp3:=blB hp3 bx
 replace hp5:=blB hp5 bx
 replace hW:=trB hW hB0 bx
 clear bx
 generalize w2.alloc (.cells (#[.slice none 0 0]) 31)=w3 at *
 generalize w2.heap.size=p6 at hp6 lw_p6 lp3_p6 lp5_p6 ⊢
 refine nilL ?_
 go_upto_region 1 with fail
 refine wl_lit ?_
 refine runWL 7 (.pointer (some ⟨w3.heap.size,0,none⟩)) (w3.alloc (.cells (#[.slice none 0 0]) 31)) rfl (by rfl) (exec_allocV 31 rfl _ (zv_D _)) ?_
 simp only [Ls]
 have lp3_p7:=hp3.lt
 have lp5_p7:=hp5.lt
 have lp6_p7:=hp6.lt
 have lw_p7:=Nat.le_trans hB0 hW.size
 have hp7:=Blk.new w3 31 (#[.slice none 0 0])
 have bx:=bAl w3 (.cells (#[.slice none 0 0]) 31)
 replace hp3:=blB hp3 bx
 replace hp5:=blB hp5 bx
 replace hp6:=blB hp6 bx
 replace hW:=trB hW hB0 bx
 clear bx
 generalize w3.alloc (.cells (#[.slice none 0 0]) 31)=w4 at *
 generalize w3.heap.size=p7 at hp7 lw_p7 lp3_p7 lp5_p7 lp6_p7 ⊢
 refine nilL ?_
 go_upto_region 2 with fail
 refine wl_lit ?_
 refine runL 8 (.int .i64 0) rfl (by rfl) (by go_simp) ?_
 simp only [Ls]
 refine nilL ?_
 go_wp2
 go_loopw [8] (fun v wr=>∃(k:Nat) (u:Value) (outs:List Value),k≤m∧v=.int .i64 (k:Int)∧Blk wr p3 31 #[.slice (some ⟨g,0,none⟩) m c]∧Blk wr p5 121 (vV x).toArray∧Blk wr p6 31 #[.slice none 0 0]∧Blk wr p7 31 #[u]∧wr.ownsRow B0 221 1 u k outs∧Inns wr B0 (N+1) outs ((l.set s x).take k)∧Below B0 w wr) (fun v _=>m-(intOf v).toNat)
 case atStart=>exact ⟨0,_,[],by omega,rfl,hp3,hp5,hp6,hp7,World.ownsRow_nil _ _ _ _,Inns.nil _ _ _,hW⟩
 case round =>
  clear hp3 hp5 hp6 hp7 hW
  have n37:p3≠p7:=by omega
  have n57:p5≠p7:=by omega
  have n67:p6≠p7:=by omega
  obtain ⟨k,u,outs,hk,rfl,hp3,hp5,hp6,hp7,hu,hin,hW⟩:=hrel
  by_cases hlt:k<m
  ·
   have hltI:(k:Int)<(m:Int):=by omega
   have hkn:¬ (k:Int)<0:=by omega
   have hwi:IntKind.i64.wrap ((k:Int)+1)=((k+1:Nat):Int):=by rw [IntWalk.i64_in _ (by omega)];omega
   obtain ⟨x0,hx0⟩:∃x0,l[k]?=some x0:=⟨l[k]'(by omega),List.getElem?_eq_getElem (by omega)⟩
   obtain ⟨b,mm,cc,vs,e1,e0,e2,e3,e4,e5,e6⟩:=rd.out _ hW k x0 hx0
   have hbl:b<wr.heap.size:=Nat.lt_of_lt_of_le (hcvB b e3) (Nat.le_trans hB0 hW.size)
   go_upto_region 3 with fail
   refine wl_lit ?_
   refine runL 10 (.int .i64 (k:Int)) rfl (by rfl) (by go_simp) ?_
   refine runL 11 (.pointer (some ⟨p3,0,none⟩)) rfl (by rfl) (by go_simp) ?_
   refine runL 12 (.slice (some ⟨g,0,none⟩) m c) rfl (by rfl) (exec_cell 29 (.tmp 11) rfl p3 0 rfl (.slice (some ⟨g,0,none⟩) m c) _ Tryz.underlying29 rfl (hp3.cellIs 0 rfl)) ?_
   refine runL 13 (.int .i64 m) rfl (by rfl) (by go_simp) ?_
   refine runL 14 (.bool true) rfl (by rfl) (by go_simp) ?_
   simp only [Ls]
   refine nilL ?_
   go_upto_region 5 with fail
   refine wl_lit ?_
   refine runL 17 (.pointer (some ⟨p3,0,none⟩)) rfl (by rfl) (by go_simp) ?_
   refine runL 18 (.slice (some ⟨g,0,none⟩) m c) rfl (by rfl) (exec_cell 29 (.tmp 17) rfl p3 0 rfl (.slice (some ⟨g,0,none⟩) m c) _ Tryz.underlying29 rfl (hp3.cellIs 0 rfl)) ?_
   refine runL 19 (.int .i64 (k:Int)) rfl (by rfl) (by go_simp) ?_
   refine runL 20 (.pointer (some ⟨g,k,none⟩)) rfl (by rfl) (by go_simp) ?_
   refine runL 21 (.slice (some ⟨b,0,none⟩) (mm+1) cc) rfl (by rfl) (exec_cell 221 (.tmp 20) rfl g k rfl (.slice (some ⟨b,0,none⟩) (mm+1) cc) _ Tryz.underlying221 rfl e1) ?_
   simp only [Ls]
   obtain ⟨v2,w2,hap,hv2,bx⟩:=app_copy (Nat.le_refl _) e0 hN e4 e5 hbl e6 221
   refine runWL 22 v2 w2 rfl (by rfl) (exec_append _ _ _ _ rfl _ _ _ rfl rfl hap) ?_
   simp only [Ls]
   clear hap e1 e0 e2 e3 e4 e5 e6 hbl
   refine runL 9 v2 rfl (by rfl) (by go_simp) ?_
   simp only [Ls]
   refine nilL ?_
   by_cases hks:k=s
   ·have hksI:((k:Int)==(s:Int))=true:=by rw [beq_iff_eq];omega
    have hx1:(l.set s x)[k]?=some x:=by subst hks;rw [List.getElem?_set_self (by omega)]
    go_upto_region 6 with fail
    refine wl_lit ?_
    refine runL 23 (.int .i64 (k:Int)) rfl (by rfl) (by go_simp) ?_
    refine runL 24 (.int .i64 (s:Int)) rfl (by rfl) (by go_simp) ?_
    refine runL 25 (.bool true) rfl (by rfl) (by go_simp) ?_
    simp only [Ls]
    refine nilL ?_
    go_upto_region 7 with fail
    refine wl_lit ?_
    refine runL 26 v2 rfl (by rfl) (by go_simp) ?_
    refine runL 27 (.agg (vV x).toArray) rfl (by rfl) (exec_row 121 (.tmp 5) rfl p5 rfl 121 (vV x).toArray _ (hp5.below bx hp5.lt) Tryz.underlying121 rfl (vV_sz x)) ?_
    simp only [Ls]
    refine runWL 28 (.slice (some ⟨w2.heap.size,0,none⟩) 1 1) (w2.alloc (.cells (vV x).toArray 121)) rfl (by rfl) (exec_bslice 221 1 [(0,.tmp 27)] rfl _ (by exact bs_V x _)) ?_
    simp only [Ls]
    have bA:Below w2.heap.size w2 (w2.alloc (.cells (vV x).toArray 121)):=(Below.refl _ _).alloc (Nat.le_refl _) _
    obtain ⟨v4,w4,hap2,hv4,hgr⟩:=app_one (Nat.le_trans bx.size bA.size) hN (hv2.below bA) (Blk.new w2 121 (vV x).toArray) 221
    refine runWL 29 v4 w4 rfl (by rfl) (exec_append _ _ _ _ rfl _ _ _ rfl rfl hap2) ?_
    simp only [Ls]
    have bx4:Below wr.heap.size wr w4:=(bx.alloc bx.size (.cells (vV x).toArray 121)).grown hgr (Nat.le_trans bx.size bA.size) hv2.from_
    clear hap2 hgr bA hv2 bx
    refine runL 9 v4 rfl (by rfl) (by go_simp) ?_
    simp only [Ls]
    refine nilL ?_
    go_upto_region 8 with fail
    obtain ⟨a,n,cc2,u2,w6,rfl,hrun,⟨g2,c2,rfl⟩,q7,r7,s3,s5,s6,s7,so,si,sW⟩:=round_end hB0 (by omega) lw_p7 hp3 hp5 hp6 hp7 n37 n57 n67 hu hin hW bx4 hv4 29
    clear hp3 hp5 hp6 hp7 hu hin hW
    refine wl_lit ?_
    refine runL 30 (.pointer (some ⟨p7,0,none⟩)) rfl (by rfl) (by go_simp) ?_
    refine runL 31 u rfl (by rfl) (exec_cell 29 (.tmp 30) rfl p7 0 rfl u _ Tryz.underlying29 rfl (q7.cellIs 0 rfl)) ?_
    refine runL 32 (.slice (some a) n cc2) rfl (by rfl) (by go_simp) ?_
    simp only [Ls]
    refine runWL 33 (.slice (some ⟨w4.heap.size,0,none⟩) 1 1) (w4.alloc (.cells #[.slice (some a) n cc2] 221)) rfl (by rfl) (exec_bslice 29 1 [(0,.tmp 32)] rfl _ (by exact bs_S a n cc2 _)) ?_
    simp only [Ls]
    refine runWL 34 (.slice (some ⟨g2,0,none⟩) (k+1) c2) w6 rfl (by rfl) (exec_append _ _ _ _ rfl _ _ _ rfl rfl hrun) ?_
    refine runL 35 (.pointer (some ⟨p7,0,none⟩)) rfl (by rfl) (by go_simp) ?_
    simp only [Ls]
    refine runSL (w6.setCell ⟨p7,0,none⟩ (.slice (some ⟨g2,0,none⟩) (k+1) c2)) rfl (by rfl) (exec_storeCell 29 (.tmp 35) (.tmp 34) rfl p7 0 rfl (.slice (some ⟨g2,0,none⟩) (k+1) c2) rfl rfl rfl 31 #[u] r7 (by show 0<1;decide) (by kernel_rfl)) ?_
    refine nilL ?_
    have hx2:(l.set s x).take (k+1)=(l.set s x).take k++[x]:=by rw [List.take_add_one,hx1];rfl
    rw [←hx2] at si
    clear q7 r7 hrun hx2
    generalize w6.setCell ⟨p7,0,none⟩ (.slice (some ⟨g2,0,none⟩) (k+1) c2)=w7 at *
    have soq:=Lib.hid so
    have siq:=Lib.hid si
    have sWq:=Lib.hid sW
    clear so si sW
    go_wp2
    go_roundw
    case rel=>exact ⟨k+1,_,_,by omega,by go_num,s3,s5,s6,s7,soq.out,siq.out,sWq.out⟩
    case measure=>simp [intOf];omega
   ·have hksI:((k:Int)==(s:Int))=false:=by rw [beq_eq_false_iff_ne];omega
    have hx1:(l.set s x)[k]?=some x0:=by rw [List.getElem?_set_ne (by omega)];exact hx0
    go_upto_region 6 with fail
    refine wl_lit ?_
    refine runL 23 (.int .i64 (k:Int)) rfl (by rfl) (by go_simp) ?_
    refine runL 24 (.int .i64 (s:Int)) rfl (by rfl) (by go_simp) ?_
    refine runL 25 (.bool false) rfl (by rfl) (by go_simp) ?_
    simp only [Ls]
    refine nilL ?_
    go_upto_region 8 with fail
    obtain ⟨a,n,cc2,u2,w6,rfl,hrun,⟨g2,c2,rfl⟩,q7,r7,s3,s5,s6,s7,so,si,sW⟩:=round_end hB0 (by omega) lw_p7 hp3 hp5 hp6 hp7 n37 n57 n67 hu hin hW bx hv2.more 29
    clear hp3 hp5 hp6 hp7 hu hin hW
    refine wl_lit ?_
    refine runL 30 (.pointer (some ⟨p7,0,none⟩)) rfl (by rfl) (by go_simp) ?_
    refine runL 31 u rfl (by rfl) (exec_cell 29 (.tmp 30) rfl p7 0 rfl u _ Tryz.underlying29 rfl (q7.cellIs 0 rfl)) ?_
    refine runL 32 (.slice (some a) n cc2) rfl (by rfl) (by go_simp) ?_
    simp only [Ls]
    refine runWL 33 (.slice (some ⟨w2.heap.size,0,none⟩) 1 1) (w2.alloc (.cells #[.slice (some a) n cc2] 221)) rfl (by rfl) (exec_bslice 29 1 [(0,.tmp 32)] rfl _ (by exact bs_S a n cc2 _)) ?_
    simp only [Ls]
    refine runWL 34 (.slice (some ⟨g2,0,none⟩) (k+1) c2) w6 rfl (by rfl) (exec_append _ _ _ _ rfl _ _ _ rfl rfl hrun) ?_
    refine runL 35 (.pointer (some ⟨p7,0,none⟩)) rfl (by rfl) (by go_simp) ?_
    simp only [Ls]
    refine runSL (w6.setCell ⟨p7,0,none⟩ (.slice (some ⟨g2,0,none⟩) (k+1) c2)) rfl (by rfl) (exec_storeCell 29 (.tmp 35) (.tmp 34) rfl p7 0 rfl (.slice (some ⟨g2,0,none⟩) (k+1) c2) rfl rfl rfl 31 #[u] r7 (by show 0<1;decide) (by kernel_rfl)) ?_
    refine nilL ?_
    have hx2:(l.set s x).take (k+1)=(l.set s x).take k++[x0]:=by rw [List.take_add_one,hx1];rfl
    rw [←hx2] at si
    clear q7 r7 hrun hx2
    generalize w6.setCell ⟨p7,0,none⟩ (.slice (some ⟨g2,0,none⟩) (k+1) c2)=w7 at *
    have soq:=Lib.hid so
    have siq:=Lib.hid si
    have sWq:=Lib.hid sW
    clear so si sW
    go_wp2
    go_roundw
    case rel=>exact ⟨k+1,_,_,by omega,by go_num,s3,s5,s6,s7,soq.out,siq.out,sWq.out⟩
    case measure=>simp [intOf];omega
  ·
   have hltI:¬ (k:Int)<(m:Int):=by omega
   obtain rfl:m=k:=by omega
   obtain ⟨gu,cu,rfl,hcu⟩:∃gu cu,u=.slice (some ⟨gu,0,none⟩) m cu∧m≤cu:=by
    rcases hu.2 with ⟨_,h0⟩|⟨g2,cap,cur,e,_,_,hc,_⟩
    ·omega
    ·exact ⟨g2,cap,e,hc⟩
   go_upto_region 3 with fail
   refine wl_lit ?_
   refine runL 10 (.int .i64 (m:Int)) rfl (by rfl) (by go_simp) ?_
   refine runL 11 (.pointer (some ⟨p3,0,none⟩)) rfl (by rfl) (by go_simp) ?_
   refine runL 12 (.slice (some ⟨g,0,none⟩) m c) rfl (by rfl) (exec_cell 29 (.tmp 11) rfl p3 0 rfl (.slice (some ⟨g,0,none⟩) m c) _ Tryz.underlying29 rfl (hp3.cellIs 0 rfl)) ?_
   refine runL 13 (.int .i64 m) rfl (by rfl) (by go_simp) ?_
   refine runL 14 (.bool false) rfl (by rfl) (by go_simp) ?_
   simp only [Ls]
   refine nilL ?_
   go_upto_region 9 with fail
   refine wl_lit ?_
   refine runL 36 (.agg #[.slice (some ⟨gu,0,none⟩) m cu]) rfl (by rfl) (exec_row 31 (.tmp 7) rfl p7 rfl 31 #[.slice (some ⟨gu,0,none⟩) m cu] _ hp7 Tryz.underlying31 rfl (by kernel_rfl)) ?_
   simp only [Ls]
   refine runSL (wr.setRow p6 #[.slice (some ⟨gu,0,none⟩) m cu]) rfl (by rfl) (exec_storeRow 31 (.tmp 6) (.tmp 36) rfl p6 rfl (#[.slice (some ⟨gu,0,none⟩) m cu]) rfl 31 (#[.slice none 0 0]) hp6 (by rfl) (by kernel_rfl) (by simp [Value.oneCell'])) ?_
   refine nilL ?_
   have gS:wr.grownBy (wr.setRow p6 #[.slice (some ⟨gu,0,none⟩) m cu]) (some p6):=grown_row _ _ _
   have hu2:=World.ownsRow.kept hu gS (.inr fun e=>ownS_ne hu hp6 (by decide) e.symm)
   have hin2:=hin.kept gS (fun g hg cur e=>by cases hg;unfold Blk at hp6;rw [hp6] at e;cases e)
   have hW2:=below_setRow hW lw_p6 (#[.slice (some ⟨gu,0,none⟩) m cu])
   have hp62:=hp6.row (#[.slice (some ⟨gu,0,none⟩) m cu])
   rw [List.take_of_length_le (by rw [List.length_set];omega)] at hin2
   clear hu hin hW hp6 gS
   generalize wr.setRow p6 #[.slice (some ⟨gu,0,none⟩) m cu]=wz at *
   go_wp2_with fail
   exact bodyPost_ret (results_cell_row rfl _ _ p6 31 (#[.slice (some ⟨gu,0,none⟩) m cu]) (0,0) _ rfl hp62 (by exact Tryz.underlying31) rfl (by kernel_rfl)) rfl ⟨gu,cu,rfl,hcu,(World.ownsRow.lt hu2 gu rfl).1,(World.ownsRow.lt hu2 gu rfl).2,hin2.ref hu2 (fun k h1 h2=>⟨h1,h2⟩),hW2⟩
end Go.Proofs.YtjboelhcieepkaaGreatDoor
namespace Go.Proofs.YtjboelhcieepkaaGreatDoor
set_option maxRecDepth 16384
open Go.RowKit Sh
theorem exec_midR{P:Program}{op:Oper}{a:Act}{w:World}(ty:TypeId)(x:Operand)(ho:op.op=.load ty x)(b o:Nat)(hx:a.eval x=.pointer (some ⟨b,o,none⟩))(cs:List Value)(d:TypeDesc)(hc:w.rangeAt b o cs)
 (hu:P.underlying ty=some d) (hd:d.isRow=true) (hi:(P.info? ty).map (·.size)=some cs.length):(execOp a.eval op).run P w=.ok (.value (.agg cs.toArray)) w:=by
 unfold execOp
 simp only [ho,hx,Instr.loadAt,Instr.sureAddr,Sem.run_bind,Sem.run_pure,Result.andThen_ok,run_loadVar_mid w b o ty cs d hc hu hd hi]
theorem zv_V(w:World):(zeroValue 121).run Tryz.prog w=.ok (.agg #[.bool false,.string .empty]) w:=by kernel_rfl
set_option maxRecDepth 100000 in
set_option maxHeartbeats 1600000 in
theorem rlast_any(N g m c k:Nat)(cv:Nat→Prop)(l:List (Option VCnt))(x:Option VCnt)(hk:k<m)(_hm:m≤1000)(hN:N≤1000)(hx:l[k]?=some x)(w:World)(hg:g<w.heap.size)(hcv:∀k,cv k→k<w.heap.size)(h:refAt N w g cv l):
 Calls Tryz.prog 52 #[.agg #[.slice (some ⟨g,0,none⟩) m c],.int .i64 (k:Int)] w fun e w'=>e=.returned (.agg (vV x).toArray)∧Below w.heap.size w w':=by
 obtain ⟨B0,hB0e,hW,hB0⟩:=stB w
 rw [hB0e]
 obtain ⟨b,mm,cc,vs,e1,e0,e2,e3,e4,e5,e6⟩:=h k x hx
 have R1:Hid (∀W,Below B0 w W→W.cell? ⟨g,k,none⟩=some (.slice (some ⟨b,0,none⟩) (mm+1) cc)):=Lib.hid fun W hb=>(World.cell?_of_block (hb.block g (by omega))).trans e1
 have hbB:b<B0:=by have:=hcv b e3;omega
 have R2:Hid (∀W,Below B0 w W→W.rangeAt b (mm*2) (vV x)):=Lib.hid fun W hb j v hv=>(World.cell?_of_block (hb.block b hbB)).trans (e6 _ v (by rw [List.getElem?_append_right (by omega),e4];rw [←hv];congr 1;omega))
 have hkI:(k:Int)<(m:Int):=by omega
 have hkn:¬ (k:Int)<0:=by omega
 have hmI:(mm:Int)<((mm+1:Nat):Int):=by omega
 have hmI2:(mm:Int)<(mm:Int)+1:=by omega
 have hmn:¬ (mm:Int)<0:=by omega
 have hwi:IntKind.i64.wrap (((mm+1:Nat):Int)-1)=(mm:Int):=by rw [IntWalk.i64_in _ (by omega)];omega
 have hwm:IntKind.i64.wrap (mm:Int)=(mm:Int):=IntWalk.i64_in _ (by omega)
 clear h e1 e2 e3 e4 e5 e6
 have hB0q:=Lib.hid hB0e
 clear hB0e
 go_enter Tryz.func52,Tryz.ntmps52
 go_upto_region 0 with fail
 refine wl_lit ?_
 refine runWL 2 (.pointer (some ⟨w.heap.size,0,none⟩)) (w.alloc (.cells (#[.slice (some ⟨g,0,none⟩) m c]) 31)) rfl (by rfl) (exec_box 31 (.tmp 0) rfl (.agg (#[.slice (some ⟨g,0,none⟩) m c])) rfl) ?_
 simp only [Ls]
 have lw_p2:=Nat.le_trans hB0 hW.size
 have hp2:=Blk.new w 31 (#[.slice (some ⟨g,0,none⟩) m c])
 replace hW:=alB hW hB0 (.cells (#[.slice (some ⟨g,0,none⟩) m c]) 31)
 generalize w.alloc (.cells (#[.slice (some ⟨g,0,none⟩) m c]) 31)=w1 at *
 generalize w.heap.size=p2 at hp2 lw_p2  ⊢
 refine runWL 4 (.pointer (some ⟨w1.heap.size,0,none⟩)) (w1.alloc (.cells (#[.bool false,.string .empty]) 121)) rfl (by rfl) (exec_allocV 121 rfl _ (zv_V _)) ?_
 simp only [Ls]
 have lp2_p4:=hp2.lt
 have lw_p4:=Nat.le_trans hB0 hW.size
 have hp4:=Blk.new w1 121 (#[.bool false,.string .empty])
 have bx:=bAl w1 (.cells (#[.bool false,.string .empty]) 121)
 replace hp2:=blB hp2 bx
 replace hW:=trB hW hB0 bx
 clear bx
 generalize w1.alloc (.cells (#[.bool false,.string .empty]) 121)=w2 at *
 generalize w1.heap.size=p4 at hp4 lw_p4 lp2_p4 ⊢
 refine nilL ?_
 go_upto_region 1 with fail
 replace hp4:=hp4.drew
 refine wp_region_held_drew (S:=fun wr=>Blk wr p2 31 (#[.slice (some ⟨g,0,none⟩) m c])∧Below B0 w wr) (by kernel_rfl) ⟨hp2.drew,below_drewN hW 1⟩ (fun hH=>?_)
 clear hp2 hW
 obtain ⟨hp2,hW⟩:=hH
 generalize w2.drew=w3 at *
 refine takeH 14 0 5 (.pointer (some ⟨p2,0,none⟩)) rfl rfl (by kernel_rfl) (by kernel_rfl) (by kernel_rfl) (fun _ _ _ h=>h) (Or.inl ⟨by rfl,fun w _=>by go_simp⟩) ⟨hp2,hW⟩ ?_
 simp only [Ls]
 refine takeH 13 1 6 (.slice (some ⟨g,0,none⟩) m c) rfl rfl (by kernel_rfl) (by kernel_rfl) (by kernel_rfl) (fun _ _ _ h=>h) (Or.inl ⟨by rfl,fun _ h=>exec_cell 29 (.tmp 5) rfl p2 0 rfl (.slice (some ⟨g,0,none⟩) m c) _ Tryz.underlying29 rfl (h.1.cellIs 0 rfl)⟩) ⟨hp2,hW⟩ ?_
 simp only [Ls]
 refine takeH 12 2 7 (.int .i64 (k:Int)) rfl rfl (by kernel_rfl) (by kernel_rfl) (by kernel_rfl) (fun _ _ _ h=>h) (Or.inl ⟨by rfl,fun w _=>by go_simp⟩) ⟨hp2,hW⟩ ?_
 simp only [Ls]
 refine takeH 11 3 8 (.pointer (some ⟨g,k,none⟩)) rfl rfl (by kernel_rfl) (by kernel_rfl) (by kernel_rfl) (fun _ _ _ h=>h) (Or.inl ⟨by rfl,fun w _=>by go_simp⟩) ⟨hp2,hW⟩ ?_
 simp only [Ls]
 refine takeH 10 4 9 (.slice (some ⟨b,0,none⟩) (mm+1) cc) rfl rfl (by kernel_rfl) (by kernel_rfl) (by kernel_rfl) (fun _ _ _ h=>h) (Or.inl ⟨by rfl,fun _ h=>exec_cell 221 (.tmp 8) rfl g k rfl (.slice (some ⟨b,0,none⟩) (mm+1) cc) _ Tryz.underlying221 rfl (R1.out _ h.2)⟩) ⟨hp2,hW⟩ ?_
 simp only [Ls]
 refine takeH 9 5 10 (.pointer (some ⟨p2,0,none⟩)) rfl rfl (by kernel_rfl) (by kernel_rfl) (by kernel_rfl) (fun _ _ _ h=>h) (Or.inl ⟨by rfl,fun w _=>by go_simp⟩) ⟨hp2,hW⟩ ?_
 simp only [Ls]
 refine takeH 8 6 11 (.slice (some ⟨g,0,none⟩) m c) rfl rfl (by kernel_rfl) (by kernel_rfl) (by kernel_rfl) (fun _ _ _ h=>h) (Or.inl ⟨by rfl,fun _ h=>exec_cell 29 (.tmp 10) rfl p2 0 rfl (.slice (some ⟨g,0,none⟩) m c) _ Tryz.underlying29 rfl (h.1.cellIs 0 rfl)⟩) ⟨hp2,hW⟩ ?_
 simp only [Ls]
 refine takeH 7 7 12 (.int .i64 (k:Int)) rfl rfl (by kernel_rfl) (by kernel_rfl) (by kernel_rfl) (fun _ _ _ h=>h) (Or.inl ⟨by rfl,fun w _=>by go_simp⟩) ⟨hp2,hW⟩ ?_
 simp only [Ls]
 refine takeH 6 8 13 (.pointer (some ⟨g,k,none⟩)) rfl rfl (by kernel_rfl) (by kernel_rfl) (by kernel_rfl) (fun _ _ _ h=>h) (Or.inl ⟨by rfl,fun w _=>by go_simp⟩) ⟨hp2,hW⟩ ?_
 simp only [Ls]
 refine takeH 5 9 14 (.slice (some ⟨b,0,none⟩) (mm+1) cc) rfl rfl (by kernel_rfl) (by kernel_rfl) (by kernel_rfl) (fun _ _ _ h=>h) (Or.inl ⟨by rfl,fun _ h=>exec_cell 221 (.tmp 13) rfl g k rfl (.slice (some ⟨b,0,none⟩) (mm+1) cc) _ Tryz.underlying221 rfl (R1.out _ h.2)⟩) ⟨hp2,hW⟩ ?_
 simp only [Ls]
 refine takeH 4 10 15 (.int .i64 ((mm+1:Nat):Int)) rfl rfl (by kernel_rfl) (by kernel_rfl) (by kernel_rfl) (fun _ _ _ h=>h) (Or.inl ⟨by rfl,fun w _=>by go_simp⟩) ⟨hp2,hW⟩ ?_
 simp only [Ls]
 refine takeH 3 11 16 (.int .i64 (mm:Int)) rfl rfl (by kernel_rfl) (by kernel_rfl) (by kernel_rfl) (fun _ _ _ h=>h) (Or.inl ⟨by rfl,fun w _=>by go_simp⟩) ⟨hp2,hW⟩ ?_
 simp only [Ls]
 refine takeH 2 12 17 (.pointer (some ⟨b,mm*2,none⟩)) rfl rfl (by kernel_rfl) (by kernel_rfl) (by kernel_rfl) (fun _ _ _ h=>h) (Or.inl ⟨by rfl,fun w _=>by go_simp⟩) ⟨hp2,hW⟩ ?_
 simp only [Ls]
 refine takeH 1 13 18 (.agg ((vV x).toArray)) rfl rfl (by kernel_rfl) (by kernel_rfl) (by kernel_rfl) (fun _ _ _ h=>h) (Or.inl ⟨by rfl,fun _ h=>exec_midR 121 (.tmp 17) rfl b (mm*2) rfl (vV x) _ (R2.out _ h.2) Tryz.underlying121 rfl ((vV_sz x).trans (by simp))⟩) ⟨hp2,hW⟩ ?_
 simp only [Ls]
 refine wpAnyH_ready (by kernel_rfl) (by simp) (readyRunS 0 14 (w3.setRow p4 ((vV x).toArray)) rfl rfl (by rfl) (exec_storeRow 121 (.tmp 4) (.tmp 18) rfl p4 rfl ((vV x).toArray) rfl 121 (#[.bool false,.string .empty]) hp4 (sz_eq (by kernel_rfl) (vV_sz x)) (vV_sz x) (vV_one x)) ⟨hp2.rowFar (show p4≠p2 from (by omega)) _,below_setRow hW lw_p4 _⟩ (fun _=>?_) AllReadyH.nil)
 replace hp2:=hp2.rowFar (show p4≠p2 from (by omega)) ((vV x).toArray)
 replace hp4:=hp4.row ((vV x).toArray)
 replace hW:=below_setRow hW lw_p4 ((vV x).toArray)
 generalize w3.setRow p4 ((vV x).toArray)=w4 at *
 refine wpAnyH_done (by kernel_rfl) ?_ _
 go_wp2_with fail
 exact bodyPost_ret (results_cell_row rfl _ _ p4 121 ((vV x).toArray) (0,0) _ rfl hp4 (by exact Tryz.underlying121) rfl (vV_sz x)) rfl ⟨rfl,hW⟩
end Go.Proofs.YtjboelhcieepkaaGreatDoor
namespace Go.Proofs.YtjboelhcieepkaaGreatDoor
set_option maxRecDepth 16384
open Go.RowKit Sh
theorem round_new{w wr w':World}{B0 N k p2 p7:Nat}{u v:Value}{outs:List Value}{xs:List (Option VCnt)}{x':Option VCnt}(hB0:B0≤w.heap.size)(hk:k≤1000)(lw7:B0≤p7)
 (hp6:Blk wr p2 31 #[.slice none 0 0]) (hp7:Blk wr p7 31 #[u]) (n67:p2≠p7)
 (hu:wr.ownsRow B0 221 1 u k outs) (hin:Inns wr B0 N outs xs) (hW:Below B0 w wr) (bx:Below wr.heap.size wr w') (hv:Inner w' wr.heap.size N v x') (ty:TypeId) :
 ∃a n cc u2 w6,v=.slice (some a) n cc∧(Builtin.append_ #[29,29] ty #[u,.slice (some ⟨w'.heap.size,0,none⟩) 1 1]).run Tryz.prog (w'.alloc (.cells #[v] 221))=.ok u2 w6∧(∃g2 c2,u2=.slice (some ⟨g2,0,none⟩) (k+1) c2)∧Blk w' p7 31 #[u]∧Blk w6 p7 31 #[u] ∧
  Blk (w6.setCell ⟨p7,0,none⟩ u2) p2 31 #[.slice none 0 0]∧Blk (w6.setCell ⟨p7,0,none⟩ u2) p7 31 #[u2] ∧
  (w6.setCell ⟨p7,0,none⟩ u2).ownsRow B0 221 1 u2 (k+1) (outs++[v])∧Inns (w6.setCell ⟨p7,0,none⟩ u2) B0 N (outs++[v]) (xs++[x'])∧Below B0 w (w6.setCell ⟨p7,0,none⟩ u2):=by
 have hBw:=Nat.le_trans hB0 hW.size
 have hu':=World.ownsRow.kept hu (grown_of_below bx) (by cases u.ownBlock<;>simp)
 have hin':=hin.below bx
 have q6:=hp6.below bx hp6.lt
 have q7:=hp7.below bx hp7.lt
 have hW':=hW.trans (bx.mono hBw)
 have hBw':=Nat.le_trans hB0 hW'.size
 have hv':Inner w' B0 N v x':=by
  obtain ⟨b,m0,c0,vs,rfl,h1,h2,h3,h4⟩:=hv
  refine ⟨b,m0,c0,vs,rfl,h1,h2,h3,h4.1,?_⟩
  rcases h4.2 with h0|⟨g2,cap,cur,e,hg,r⟩
  ·exact .inl h0
  ·exact .inr ⟨g2,cap,cur,e,Nat.le_trans hBw hg,r⟩
 obtain ⟨a,n,cc,rfl⟩:∃a n cc,v=.slice (some a) n cc:=by
  obtain ⟨b,m0,c0,vs,rfl,_⟩:=hv
  exact ⟨_,_,_,rfl⟩
 have bA:Below w'.heap.size w' (w'.alloc (.cells #[.slice (some a) n cc] 221)):=(Below.refl _ _).alloc (Nat.le_refl _) _
 have hq:=Blk.new w' 221 #[.slice (some a) n cc]
 obtain ⟨u2,w6,c2,g2,hrun,e2,ho2,hgr⟩:=app_list (Nat.le_trans hBw' bA.size) hk (World.ownsRow.alloc hu' _) rfl hq ty
 have huA:=World.ownsRow.alloc hu' (.cells #[.slice (some a) n cc] 221)
 have r6:=(q6.alloc (.cells #[.slice (some a) n cc] 221)).grown hgr (ownS_ne huA (q6.alloc _) (by decide))
 have r7:=(q7.alloc (.cells #[.slice (some a) n cc] 221)).grown hgr (ownS_ne huA (q7.alloc _) (by decide))
 have hinA:=((hin'.below bA).snoc (hv'.below bA)).kept hgr (fun g hg=>ownS_notV huA g hg)
 have hW6:=(hW'.alloc hBw' (.cells #[.slice (some a) n cc] 221)).grown hgr (Nat.le_trans hBw' bA.size) (fun j hj=>(World.ownsRow.lt huA j hj).1)
 have gS:w6.grownBy (w6.setCell ⟨p7,0,none⟩ u2) (some p7):=⟨rfl,rfl,rfl,by simp [World.setCell],fun k _ hk=>Below.heap_setCell w6 _ u2 k (fun e=>hk (by rw [e]))⟩
 refine ⟨a,n,cc,u2,w6,rfl,hrun,⟨g2,c2,e2⟩,q7,r7,r6.far (p:=⟨p7,0,none⟩) n67 _,r7.set_ 0 _,?_,hinA.kept gS (fun g hg cur e=>?_),hW6.setCell (p:=⟨p7,0,none⟩) lw7 _⟩
 ·exact World.ownsRow.kept ho2 gS (.inr fun e=>ownS_ne ho2 r7 (by decide) e.symm)
 ·cases hg
  unfold Blk at r7
  rw [r7] at e
  cases e
set_option maxRecDepth 100000 in
set_option maxHeartbeats 1600000 in
theorem rnew_any(m:Nat)(hm:m≤1000)(hm0:0<m)(w:World):
 Calls Tryz.prog 29 #[.int .i64 (m:Int)] w fun e w'=>∃g' c',e=.returned (.agg #[.slice (some ⟨g',0,none⟩) m c'])∧m≤c'∧w.heap.size≤g'∧g'<w'.heap.size∧refAt 0 w' g' (fun k=>w.heap.size≤k∧k<w'.heap.size) (List.replicate m none)∧Below w.heap.size w w':=by
 obtain ⟨B0,hB0e,hW,hB0⟩:=stB w
 rw [hB0e]
 have hB0q:=Lib.hid hB0e
 clear hB0e
 go_enter Tryz.func29,Tryz.ntmps29
 go_upto_region 0 with fail
 refine wl_lit ?_
 refine runWL 2 (.pointer (some ⟨w.heap.size,0,none⟩)) (w.alloc (.cells (#[.slice none 0 0]) 31)) rfl (by rfl) (exec_allocV 31 rfl _ (zv_D _)) ?_
 simp only [Ls]
 have lw_p2:=Nat.le_trans hB0 hW.size
 have hp2:=Blk.new w 31 (#[.slice none 0 0])
 replace hW:=alB hW hB0 (.cells (#[.slice none 0 0]) 31)
 generalize w.alloc (.cells (#[.slice none 0 0]) 31)=w1 at *
 generalize w.heap.size=p2 at hp2 lw_p2  ⊢
 refine nilL ?_
 go_upto_region 1 with fail
 refine wl_lit ?_
 refine runWL 3 (.pointer (some ⟨w1.heap.size,0,none⟩)) (w1.alloc (.cells (#[.slice none 0 0]) 31)) rfl (by rfl) (exec_allocV 31 rfl _ (zv_D _)) ?_
 simp only [Ls]
 have lp2_p3:=hp2.lt
 have lw_p3:=Nat.le_trans hB0 hW.size
 have hp3:=Blk.new w1 31 (#[.slice none 0 0])
 have bx:=bAl w1 (.cells (#[.slice none 0 0]) 31)
 replace hp2:=blB hp2 bx
 replace hW:=trB hW hB0 bx
 clear bx
 generalize w1.alloc (.cells (#[.slice none 0 0]) 31)=w2 at *
 generalize w1.heap.size=p3 at hp3 lw_p3 lp2_p3 ⊢
 refine nilL ?_
 go_upto_region 2 with fail
 refine wl_lit ?_
 refine runL 4 (.int .i64 0) rfl (by rfl) (by go_simp) ?_
 simp only [Ls]
 refine nilL ?_
 go_wp2
 go_loopw [4] (fun v wr=>∃(k:Nat) (u:Value) (outs:List Value),k≤m∧v=.int .i64 (k:Int)∧Blk wr p2 31 #[.slice none 0 0]∧Blk wr p3 31 #[u]∧wr.ownsRow B0 221 1 u k outs∧Inns wr B0 0 outs (List.replicate k none)∧Below B0 w wr) (fun v _=>m-(intOf v).toNat)
 case atStart=>exact ⟨0,_,[],by omega,rfl,hp2,hp3,World.ownsRow_nil _ _ _ _,Inns.nil _ _ _,hW⟩
 case round =>
  clear hp2 hp3 hW
  have n23:p2≠p3:=by omega
  obtain ⟨k,u,outs,hk,rfl,hp2,hp3,hu,hin,hW⟩:=hrel
  by_cases hlt:k<m
  ·
   have hltI:(k:Int)<(m:Int):=by omega
   have hkn:¬ (k:Int)<0:=by omega
   have hwi:IntKind.i64.wrap ((k:Int)+1)=((k+1:Nat):Int):=by rw [IntWalk.i64_in _ (by omega)];omega
   go_upto_region 3 with fail
   refine wl_lit ?_
   refine runL 5 (.int .i64 (k:Int)) rfl (by rfl) (by go_simp) ?_
   refine runL 6 (.int .i64 (m:Int)) rfl (by rfl) (by go_simp) ?_
   refine runL 7 (.bool true) rfl (by rfl) (by go_simp) ?_
   simp only [Ls]
   refine nilL ?_
   go_upto_region 5 with fail
   refine wl_lit ?_
   have bx:Below wr.heap.size wr (wr.alloc (.cells (vV none).toArray 121)):=(Below.refl _ _).alloc (Nat.le_refl _) _
   have hv:Inner (wr.alloc (.cells (vV none).toArray 121)) wr.heap.size 0 (.slice (some ⟨wr.heap.size,0,none⟩) 1 1) none:=⟨_,0,1,[],rfl,Nat.le_refl _,rfl,fun _ h=>by simp at h,World.ownsRow_lit wr (vV none).toArray 1 (Nat.le_refl _) (by unfold maxLen;omega) rfl⟩
   obtain ⟨a,n,cc2,u2,w6,ea,hrun,⟨g2,c2,rfl⟩,q7,r7,s6,s7,so,si,sW⟩:=round_new hB0 (by omega) lw_p3 hp2 hp3 n23 hu hin hW bx hv 29
   cases ea
   refine runL 10 (.pointer (some ⟨p3,0,none⟩)) rfl (by rfl) (by go_simp) ?_
   refine runL 11 u rfl (by rfl) (exec_cell 29 (.tmp 10) rfl p3 0 rfl u _ Tryz.underlying29 rfl (hp3.cellIs 0 rfl)) ?_
   refine runL 12 (.agg (vV none).toArray) rfl (by rfl) (exec_build 121 [] rfl _ (by kernel_rfl)) ?_
   simp only [Ls]
   refine runWL 13 (.slice (some ⟨wr.heap.size,0,none⟩) 1 1) (wr.alloc (.cells (vV none).toArray 121)) rfl (by rfl) (exec_bslice 221 1 [(0,.tmp 12)] rfl _ (by exact bs_V none _)) ?_
   simp only [Ls]
   clear hp2 hp3 hu hin hW bx hv
   refine runWL 14 (.slice (some ⟨(wr.alloc (.cells (vV none).toArray 121)).heap.size,0,none⟩) 1 1) ((wr.alloc (.cells (vV none).toArray 121)).alloc (.cells #[.slice (some ⟨wr.heap.size,0,none⟩) 1 1] 221)) rfl (by rfl) (exec_bslice 29 1 [(0,.tmp 13)] rfl _ (by exact bs_S ⟨wr.heap.size,0,none⟩ 1 1 _)) ?_
   simp only [Ls]
   refine runWL 15 (.slice (some ⟨g2,0,none⟩) (k+1) c2) w6 rfl (by rfl) (exec_append _ _ _ _ rfl _ _ _ rfl rfl hrun) ?_
   refine runL 16 (.pointer (some ⟨p3,0,none⟩)) rfl (by rfl) (by go_simp) ?_
   simp only [Ls]
   refine runSL (w6.setCell ⟨p3,0,none⟩ (.slice (some ⟨g2,0,none⟩) (k+1) c2)) rfl (by rfl) (exec_storeCell 29 (.tmp 16) (.tmp 15) rfl p3 0 rfl (.slice (some ⟨g2,0,none⟩) (k+1) c2) rfl rfl rfl 31 #[u] r7 (by show 0<1;decide) (by kernel_rfl)) ?_
   refine nilL ?_
   have hx2:List.replicate (k+1) (none:Option VCnt)=List.replicate k none++[none]:=by rw [←List.replicate_append_replicate];rfl
   rw [←hx2] at si
   clear q7 r7 hrun hx2
   generalize w6.setCell ⟨p3,0,none⟩ (.slice (some ⟨g2,0,none⟩) (k+1) c2)=w7 at *
   have soq:=Lib.hid so
   have siq:=Lib.hid si
   have sWq:=Lib.hid sW
   clear so si sW
   go_wp2
   go_roundw
   case rel=>exact ⟨k+1,_,_,by omega,by go_num,s6,s7,soq.out,siq.out,sWq.out⟩
   case measure=>simp [intOf];omega
  ·
   have hltI:¬ (k:Int)<(m:Int):=by omega
   obtain rfl:m=k:=by omega
   obtain ⟨gu,cu,rfl,hcu⟩:∃gu cu,u=.slice (some ⟨gu,0,none⟩) m cu∧m≤cu:=by
    rcases hu.2 with ⟨_,h0⟩|⟨g2,cap,cur,e,_,_,hc,_⟩
    ·omega
    ·exact ⟨g2,cap,e,hc⟩
   go_upto_region 3 with fail
   refine wl_lit ?_
   refine runL 5 (.int .i64 (m:Int)) rfl (by rfl) (by go_simp) ?_
   refine runL 6 (.int .i64 (m:Int)) rfl (by rfl) (by go_simp) ?_
   refine runL 7 (.bool false) rfl (by rfl) (by go_simp) ?_
   simp only [Ls]
   refine nilL ?_
   go_upto_region 6 with fail
   refine wl_lit ?_
   refine runL 17 (.agg #[.slice (some ⟨gu,0,none⟩) m cu]) rfl (by rfl) (exec_row 31 (.tmp 3) rfl p3 rfl 31 #[.slice (some ⟨gu,0,none⟩) m cu] _ hp3 Tryz.underlying31 rfl (by kernel_rfl)) ?_
   simp only [Ls]
   refine runSL (wr.setRow p2 #[.slice (some ⟨gu,0,none⟩) m cu]) rfl (by rfl) (exec_storeRow 31 (.tmp 2) (.tmp 17) rfl p2 rfl (#[.slice (some ⟨gu,0,none⟩) m cu]) rfl 31 (#[.slice none 0 0]) hp2 (by rfl) (by kernel_rfl) (by simp [Value.oneCell'])) ?_
   refine nilL ?_
   have gS:wr.grownBy (wr.setRow p2 #[.slice (some ⟨gu,0,none⟩) m cu]) (some p2):=grown_row _ _ _
   have hu2:=World.ownsRow.kept hu gS (.inr fun e=>ownS_ne hu hp2 (by decide) e.symm)
   have hin2:=hin.kept gS (fun g hg cur e=>by cases hg;unfold Blk at hp2;rw [hp2] at e;cases e)
   have hW2:=below_setRow hW lw_p2 (#[.slice (some ⟨gu,0,none⟩) m cu])
   have hp22:=hp2.row (#[.slice (some ⟨gu,0,none⟩) m cu])
   clear hu hin hW hp2 gS
   generalize wr.setRow p2 #[.slice (some ⟨gu,0,none⟩) m cu]=wz at *
   go_wp2_with fail
   exact bodyPost_ret (results_cell_row rfl _ _ p2 31 (#[.slice (some ⟨gu,0,none⟩) m cu]) (0,0) _ rfl hp22 (by exact Tryz.underlying31) rfl (by kernel_rfl)) rfl ⟨gu,cu,rfl,hcu,(World.ownsRow.lt hu2 gu rfl).1,(World.ownsRow.lt hu2 gu rfl).2,hin2.ref hu2 (fun k h1 h2=>⟨h1,h2⟩),hW2⟩
end Go.Proofs.YtjboelhcieepkaaGreatDoor
