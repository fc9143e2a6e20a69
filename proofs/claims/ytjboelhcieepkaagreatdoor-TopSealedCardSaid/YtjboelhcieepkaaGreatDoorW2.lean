/- A part of the proof of TopSealed. -/
import Derived.Test.YtjboelhcieepkaaGreatDoorW1
import Derived.Laws.CopyOwn
import Derived.Deep.LoopGhost
import Derived.Deep.RegionHeld3
import Derived.Deep.DeepCutAuto
import Derived.ChangeReads
import Derived.ChangeArms
import Derived.WideShapes
import Derived.ChangeShapes
import Derived.Carry
import Derived.Lib.SmallJoins
import Derived.Deep.Slices
import Derived.Deep.Strs
import Derived.Laws.ResultCell
import Derived.Laws.BytesString
noncomputable section
set_option maxRecDepth 16384
set_option maxHeartbeats 1600000
namespace Go.Proofs.YtjboelhcieepkaaGreatDoor
open Go.RowKit Sh
def jO(bg:Bool)(h r:List Nat)(many:Nat):List Value:=.bool bg::(nv .u32 h++(nv .u8 r++[.int .u64 (many:Int)]))
def bW(bg:Bool)(h r:List Nat)(many:Nat):Array Value:=(jO bg h r many).toArray
theorem aH3(bg:Bool)(h r:List Nat)(many:Nat)(hh:h.length=8)(hr:r.length=64):(jO bg h r many).length=74:=by
 simp [jO,aZ,hh,hr]
theorem gK(bg:Bool)(h r:List Nat)(many:Nat)(hh:h.length=8)(hr:r.length=64):(bW bg h r many).size=74:=by
 simp [bW,aH3 bg h r many hh hr]
theorem sY(bg:Bool)(h r:List Nat)(many:Nat):∀v∈(bW bg h r many).toList,v.oneCell'=true:=by
 intro v hv
 simp only [bW,jO,bG,eL,cK,or_false] at hv
 rcases hv with rfl|hv|hv|rfl
 ·rfl
 ·exact gN _ _ v hv
 ·exact gN _ _ v hv
 ·rfl
theorem aVp(bg:Bool)(h r:List Nat)(many:Nat):(bW bg h r many)[0]?=some (.bool bg):=rfl
theorem N7(bg:Bool)(h r:List Nat)(many:Nat)(hh:h.length=8)(hr:r.length=64):(bW bg h r many)[73]?=some (.int .u64 (many:Int)):=by
 simp only [bW,List.getElem?_toArray,jO,List.getElem?_cons_succ]
 rw [o3 (by rw [aZ,hh];omega),aZ,hh,o3 (by rw [aZ,hr];omega),aZ,hr];rfl
theorem aJv(bg:Bool)(h r:List Nat)(many:Nat)(hh:h.length=8)(j:Nat)(hj:j<8):(bW bg h r many)[1+j]?=(nv .u32 h)[j]?:=by
 simp only [bW,List.getElem?_toArray,jO]
 rw [Nat.add_comm,List.getElem?_cons_succ,mZ (by rw [aZ,hh];exact hj)]
theorem a0F(bg:Bool)(h r:List Nat)(many:Nat)(hh:h.length=8)(hr:r.length=64)(j:Nat)(hj:j<64):(bW bg h r many)[9+j]?=(nv .u8 r)[j]?:=by
 simp only [bW,List.getElem?_toArray,jO]
 rw [show 9+j=(8+j)+1 from by omega,List.getElem?_cons_succ,o3 (by rw [aZ,hh];omega),aZ,hh,show 8+j-8=j from by omega,mZ (by rw [aZ,hr];exact hj)]
theorem aMY(bg:Bool)(h r:List Nat)(many m2:Nat)(hh:h.length=8)(hr:r.length=64):(bW bg h r many).setIfInBounds 73 (.int .u64 (m2:Int))=bW bg h r m2:=by
 simp only [bW,List.setIfInBounds_toArray,jO,List.set_cons_succ]
 rw [List.set_append_right _ _ (by rw [aZ,hh];omega),aZ,hh,List.set_append_right _ _ (by rw [aZ,hr];omega),aZ,hr];rfl
theorem a44(bg:Bool)(h r m:List Nat)(many o:Nat)(hh:h.length=8)(hr:r.length=64)(ho:o+m.length≤64):
 ((bW bg h r many).toList.take (9+o)++(nv .u8 m++(bW bg h r many).toList.drop (9+o+(nv .u8 m).length))).toArray=bW bg h (r.take o++(m++r.drop (o+m.length))) many:=by
 have e1:(jO bg h r many).take (9+o)=.bool bg::(nv .u32 h++nv .u8 (r.take o)):=by
  rw [jO,show 9+o=(8+o)+1 from by omega,List.take_succ_cons,List.take_append,aZ,hh,jB (by rw [aZ,hh];omega),show 8+o-8=o from by omega,List.take_append_of_le_length (by rw [aZ,hr];omega),tW]
 have e2:(jO bg h r many).drop (9+o+m.length)=nv .u8 (r.drop (o+m.length))++[.int .u64 (many:Int)]:=by
  rw [jO,show 9+o+m.length=(8+(o+m.length))+1 from by omega,List.drop_succ_cons,List.drop_append,aZ,hh,kI (by rw [aZ,hh];omega),show 8+(o+m.length)-8=o+m.length from by omega,List.nil_append,List.drop_append_of_le_length (by rw [aZ,hr];omega),rT]
 simp only [bW,aZ,e1,e2]
 congr 1
 simp [jO,nv]
theorem aS2(bg:Bool)(h h2 r:List Nat)(many:Nat)(hh:h.length=8)(hh2:h2.length=8):
 ((bW bg h r many).toList.take 1++(nv .u32 h2++(bW bg h r many).toList.drop (1+(nv .u32 h2).length))).toArray=bW bg h2 r many:=by
 have e2:(jO bg h r many).drop (1+8)=nv .u8 r++[.int .u64 (many:Int)]:=by
  rw [jO,show 1+8=8+1 from rfl,List.drop_succ_cons,List.drop_append,aZ,hh,kI (by rw [aZ,hh];omega)];rfl
 simp only [bW,aZ,hh2,e2]
 rfl
def lS(r:List Nat)(p:Nat):List Nat->List Nat
 |[]=>r
 |x::m=>lS (r.set (p%64) x) (p+1) m
def qU(l:List Nat):List Nat:=lS dX 0 l
theorem aZg(m:List Nat):∀(r:List Nat) (p:Nat),(lS r p m).length=r.length:=by
 induction m with
 |nil=>intro r p;rfl
 |cons x m ih=>intro r p;show (lS _ _ m).length=_;rw [ih,List.length_set]
theorem aNw(l:List Nat):(qU l).length=64:=by unfold qU;rw [aZg,oZ]
theorem a30(m:List Nat):∀(l r:List Nat) (p:Nat),lS r p (l++m)=lS (lS r p l) (p+l.length) m:=by
 intro l
 induction l with
 |nil=>intro r p;rfl
 |cons x l ih =>
  intro r p
  show lS _ _ (l++m)=lS (lS _ _ l) _ m
  rw [ih]
  congr 1
  simp;omega
theorem a9w(m:List Nat):∀(A B:List Nat) (p:Nat),A.length=p%64->A.length+B.length=64->m.length≤B.length->lS (A++B) p m=A++(m++B.drop m.length):=by
 induction m with
 |nil=>intro A B p _ _ _;simp [lS]
 |cons x m ih =>
  intro A B p hA hB hm
  cases B with
  |nil=>simp at hm
  |cons b B =>
   have e1:(A++b::B).set (p%64) x=(A++[x])++B:=by
    rw [<-hA,List.set_append_right _ _ (aS _),Nat.sub_self,List.set_cons_zero,List.append_assoc];rfl
   show lS ((A++b::B).set (p%64) x) (p+1) m=_
   rw [e1]
   simp only [List.length_cons] at hB hm
   cases m with
   |nil=>simp [lS]
   |cons y m =>
    simp only [List.length_cons] at hm
    rw [ih (A++[x]) B (p+1) (by rw [eS,List.length_singleton];omega) (by rw [eS,List.length_singleton];omega) (by simp only [List.length_cons];omega)]
    simp
theorem aU6(m:List Nat)(r:List Nat)(p:Nat)(hr:r.length=64)(hm:p%64+m.length≤64):lS r p m=r.take (p%64)++(m++r.drop (p%64+m.length)):=by
 have hq:p%64<64:=Nat.mod_lt _ (by omega)
 have:=a9w m (r.take (p%64)) (r.drop (p%64)) p (by rw [List.length_take];omega) (by rw [List.length_take,List.length_drop];omega) (by rw [List.length_drop];omega)
 rw [List.take_append_drop,List.drop_drop] at this
 exact this
structure fZ(l h r:List Nat):Prop where
 h:h=hs l (l.length / 64)
 len:r.length=64
 byt:Byt r
 t:r.take (l.length%64)=l.drop (64*(l.length / 64))
 v:r=qU l
theorem fZ.vmore{l h r:List Nat}(s:fZ l h r)(m:List Nat)(hlt:l.length%64+m.length≤64):r.take (l.length%64)++(m++r.drop (l.length%64+m.length))=qU (l++m):=by
 unfold qU
 rw [a30,Nat.zero_add]
 have:=aU6 m r l.length s.len hlt
 rw [<-this,s.v];rfl
theorem fZ.hl{l h r:List Nat}(s:fZ l h r):h.length=8:=by rw [s.h];exact hs_len _ _
theorem fZ.hw{l h r:List Nat}(s:fZ l h r):nK h:=by rw [s.h];exact aDL _ _
theorem fZ.more{l h r:List Nat}(s:fZ l h r)(m:List Nat)(hm:Byt m)(hlt:l.length%64+m.length<64):
 fZ (l++m) h (r.take (l.length%64)++(m++r.drop (l.length%64+m.length))):=by
 have hd:(l++m).length / 64=l.length / 64:=by rw [eS];omega
 have hq:(l++m).length%64=l.length%64+m.length:=by rw [eS];omega
 have h1:(r.take (l.length%64)).length=l.length%64:=by rw [List.length_take,s.len];omega
 refine ⟨?_,?_,(s.byt.take _).app (hm.app (s.byt.drop _)),?_,s.vmore m (by omega)⟩
 ·rw [hd,aLY l m _ (by omega)];exact s.h
 ·rw [eS,eS,h1,List.length_drop,s.len];omega
 ·rw [hd,hq,<-List.append_assoc,List.take_append_of_le_length (by rw [eS,h1];omega),jB (by rw [eS,h1];omega),List.drop_append_of_le_length (by omega),s.t]
theorem fZ.full{l h r:List Nat}(s:fZ l h r)(m:List Nat)(hm:Byt m)(hlt:l.length%64+m.length=64):
 fZ (l++m) (comp h (r.take (l.length%64)++m)) (r.take (l.length%64)++m):=by
 have hd:(l++m).length / 64=l.length / 64+1:=by rw [eS];omega
 have hq:(l++m).length%64=0:=by rw [eS];omega
 have h1:(r.take (l.length%64)).length=l.length%64:=by rw [List.length_take,s.len];omega
 refine ⟨?_,by rw [eS,h1];exact hlt,(s.byt.take _).app hm,?_,(by have:=s.vmore m (by omega);rw [hlt,kI (by rw [s.len];omega),eC] at this;exact this)⟩
 ·rw [hd]
  simp only [hs]
  rw [aLY l m _ (by omega),<-s.h,s.t,List.drop_append_of_le_length (by omega),jB (by rw [eS,List.length_drop];omega)]
 ·rw [hq,hd,List.take_zero,kI (by rw [eS];omega)]
def oW:Array Value:=bW false z8 dX 0
theorem zvS(w:World):(zeroValue 74).run Tryz.prog w=.ok (.agg oW) w:=by kernel_rfl
theorem aCF:oW.size=74:=gK false z8 dX 0 rfl oZ
def rH:Value->Nat | .slice _ n _=>n|_=>0
theorem a3b{P:Program}{w:World}{g:Nat}{t:TypeId}{cur:Array Value}(h:aC w g t cur)(o:Nat)(k:IntKind)(l:List Nat)(hf:o+l.length≤cur.size):
 (storeCells ⟨g,o,none⟩ (va k l).toList).run P w=.ok () (w.setRow g (cur.toList.take o++(nv k l++cur.toList.drop (o+(nv k l).length))).toArray):=by
 have e:=run_storeCells_at (P:=P) g o t (va k l).toList 0 cur w h (by simp [b9];omega) (λv hv=>gN k l v (by simpa [va] using hv))
 simpa [va] using e
theorem aBn{P:Program}{w:World}{g:Nat}{t:TypeId}{old:Array Value}(h:aC w g t old)(c:Array Value)(hs:old.size=c.size)(h1:∀v∈c.toList,v.oneCell'=true):
 (storeCells ⟨g,0,none⟩ c.toList).run P w=.ok () (w.setRow g c):=by
 have e:=run_storeCells_from (P:=P) g t c.toList 0 old w h (by simp;omega) h1
 simpa using e
structure aEV(G:Nat)(l h r:List Nat)(w wr:World):Prop where
 s:aC wr G 74 (bW true h r l.length)
 e:aC wr (G+1) 74 oW
 ok:fZ l h r
 bel:Below G w wr
theorem bCV{G L q n B:Nat}{l h r rest:List Nat}{ad:Addr}{w wr:World}(hm:aEV G l h r w wr)(hL:l.length=L)(hr:bH wr B 1 (some ad) n (nv .u8 rest))(hBG:B≤G)(c k:Nat)(hk:k≤n)(hk2:q+k≤64)
 (hmin:k=min n (64-q)) :
 ∃w2,(Builtin.copy_ #[23,23] 3 #[.slice (some ⟨G,9+q,none⟩) (64-q) (64-q),.slice (some ad) n c]).run Tryz.prog wr=.ok (.int .i64 (k:Int)) w2 ∧
  aC w2 G 74 (bW true h (r.take q++(rest.take k++r.drop (q+k))) L)∧aC w2 (G+1) 74 oW∧Below G w w2∧bH w2 B 1 (some ad) n (nv .u8 rest) ∧
  (r.take q++(rest.take k++r.drop (q+k))).length=64:=by
 have hrl:=hr.len
 have hkl:(rest.take k).length=k:=by rw [List.length_take];omega
 have hsz:(Tryz.prog.info? 5).map (·.size)=some 1:=by kernel_rfl
 have hcp:=run_copy_row (P:=Tryz.prog) wr 23 23 3 5 G (9+q) (64-q) (64-q) ad n c (bW true h r l.length) 74 (nv .u8 (rest.take k)) Tryz.underlying23 hsz hm.s
  (by rw [aZ,hkl];exact hmin)
  (λj v hv=>by
   rcases Nat.eq_zero_or_pos n with h0|h0
   ·rw [fA (by rw [aZ,hkl];omega)] at hv;cases hv
   ·obtain ⟨ad',e,_,hc⟩:=hr.2 h0
    injection e with e
    subst e
    refine hc j v ?_
    rw [<-tW] at hv
    rw [List.getElem?_take] at hv
    split at hv
    ·exact hv
    ·cases hv)
  (by rw [aZ,hkl,gK _ _ _ _ hm.ok.hl hm.ok.len];omega) (gN _ _)
 rw [List.append_assoc,a44 true h r (rest.take k) l.length q hm.ok.hl hm.ok.len (by rw [hkl];exact hk2)] at hcp
 rw [hkl,hL] at hcp
 refine ⟨_,?_,hm.s.row _,hm.e.rowFar (by omega) _,eJ hm.bel (aS _) _,hr.keep λp hp=>?_,by rw [eS,eS,hkl,List.length_take,List.length_drop,hm.ok.len];omega⟩
 ·rw [hcp,aZ,hkl];rfl
 ·exact World.cell?_of_block (sJ _ _ _ _ (by omega))
set_option maxRecDepth 100000 in
theorem aEq(l h r m:List Nat)(A:Option Addr)(n c B:Nat)(hok:fZ l h r)(hm:Byt m)(hnc:n≤c)(hlen:l.length+n<4611686018427387904)(w:World)(hg:kA w)
 (hr:bH w B 1 A n (nv .u8 m)) (hB:B≤w.heap.size) :
 Calls Tryz.prog 12 #[.agg (bW true h r l.length),.slice A n c] w λe w' =>
  ∃h' r',e=.returned (.agg (bW true h' r' (l++m).length))∧fZ (l++m) h' r'∧Below w.heap.size w w':=by
 have hzv:=zvS
 go_enter Tryz.func12,Tryz.ntmps12
 have hm0:aEV w.heap.size l h r w ((w.alloc (.cells (bW true h r l.length) 74)).alloc (.cells oW 74)):=by
  refine ⟨(aC.new _ _ _).alloc _,?_,hok,((Below.refl _ _).alloc (aS _) _).alloc (by simp) _⟩
  have:=aC.new (w.alloc (.cells (bW true h r l.length) 74)) 74 oW
  simpa using this
 have hbg:=hm0.s.cell 0
 rw [aVp] at hbg
 have hm1:=Lib.hid hm0
 clear hm0
 go_wp2
 have hm0:=hm1.out
 have hr0:bH ((w.alloc (.cells (bW true h r l.length) 74)).alloc (.cells oW 74)) B 1 A n (nv .u8 m):=(hr.alloc hB _).alloc (by simp;omega) _
 generalize (w.alloc (.cells (bW true h r l.length) 74)).alloc (.cells oW 74)=w1 at *
 clear hm1 hbg hzv hok
 have hG1:1<w.heap.size:=by have h1:=hg.lk;have h2:=hg.lh;omega
 generalize hGG:w.heap.size=G at *
 go_loopw [1] (λs wr=>∃(d rest h' r':List Nat) (A':Option Addr) (n' c':Nat),s=.slice A' n' c'∧d++rest=l++m∧aEV G d h' r' w wr∧bH wr B 1 A' n' (nv .u8 rest)∧Byt rest∧n'≤c'∧d.length+n'=l.length+n) (λs _=>rH s)
 case atStart=>exact ⟨l,m,h,r,A,n,c,rfl,rfl,hm0,hr0,hm,hnc,rfl⟩
 case round =>
  obtain ⟨d,rest,h',r',A',n',c',rfl,hd,hmem,hrd,hby,hnc',hle⟩:=hrel
  clear hm0 hr0
  have hrl:=hrd.len
  by_cases hpos:0<n'
  ·have hpos':0<(n':Int):=by omega
   obtain ⟨ad,rfl,hadB,_⟩:=hrd.num hpos
   have hlen':d.length<4611686018427387904:=by omega
   have hcm:=hmem.s.cell 73
   rw [N7 _ _ _ _ hmem.ok.hl hmem.ok.len] at hcm
   have hfm:=hmem.s.frozen 73
   obtain ⟨q,hq,hq64⟩:∃q:Nat,d.length%64=q∧q<64:=⟨_,rfl,Nat.mod_lt _ (by omega)⟩
   have hqi:(d.length:Int)%64=(q:Int):=by omega
   have hq':=Lib.hid hq
   have hle':=Lib.hid hle
   have hrl':=Lib.hid hrl
   have hd':=Lib.hid hd
   have hmem':=Lib.hid hmem
   have hq0:0≤(q:Int):=by omega
   have hq1:(q:Int)≤64:=by omega
   clear hq hle hrl hd hmem
   generalize hL:d.length=L at *
   have hcs:=λk hk hk2 hmin=>bCV (q:=q) (c:=c') (k:=k) hmem'.out hL hrd hB hk hk2 hmin
   by_cases hfull:64≤q+n'
   ·obtain ⟨w2,hcp,hS2,hE2,hB2,hR2,hl2⟩:=hcs (64-q) (by omega) (by omega) (by omega)
    obtain ⟨k,hk⟩:∃k,64-q=k:=⟨_,rfl⟩
    rw [hk] at hcp hS2 hl2
    have hk0:0<k:=by omega
    have hkn:k≤n':=by omega
    have hkq:q+k=64:=by omega
    have ht:((q:Int)+(k:Int)==64)=true:=by rw [beq_iff_eq];omega
    have hki:(k:Int)≤(c':Int):=by omega
    have hki2:(k:Int)≤(n':Int):=by omega
    have hk64:(k:Int)≤64:=by omega
    have hkl:(rest.take k).length=k:=by rw [List.length_take,hrl'.out];omega
    have hhl:=hmem'.out.ok.hl
    have hcm2:=hS2.cell 73
    rw [N7 _ _ _ _ hhl hl2] at hcm2
    have hfm2:=hS2.frozen 73
    have hS3:=hS2.set_ 73 (.int .u64 ((L+k:Nat):Int))
    rw [aMY _ _ _ _ _ hhl hl2] at hS3
    have er:r'.take q++(rest.take k++r'.drop (q+k))=r'.take q++rest.take k:=by
     rw [kI (by rw [hmem'.out.ok.len];omega),eC]
    rw [er] at hS3 hS2 hl2
    have hr2b:Byt (r'.take q++rest.take k):=(hmem'.out.ok.byt.take q).app (hby.take k)
    have hB3:Below G w (w2.setCell ⟨G,73,none⟩ (.int .u64 ((L+k:Nat):Int))):=hB2.setCell (aS _) _
    have hE3:aC (w2.setCell ⟨G,73,none⟩ (.int .u64 ((L+k:Nat):Int))) (G+1) 74 oW:=hE2.far (p:=⟨G,73,none⟩) (by simp) _
    have hR3:bH (w2.setCell ⟨G,73,none⟩ (.int .u64 ((L+k:Nat):Int))) B 1 (some ad) n' (nv .u8 rest):=hR2.setCell (p:=⟨G,73,none⟩) hB _
    have ev:((L+k:Nat):Int)=(L:Int)+(k:Int):=by omega
    have hok2:=hmem'.out.ok.full (rest.take k) (hby.take k) (by rw [hL,hq'.out,hkl];exact hkq)
    rw [hL,hq'.out] at hok2
    have hok3:=Lib.hid hok2
    have hdl:(d++rest.take k).length=L+k:=by rw [eS,hL,hkl]
    have hdl':=Lib.hid hdl
    rw [ev] at hS3 hB3 hE3 hR3
    have hg3:kA (w2.setCell ⟨G,73,none⟩ (.int .u64 ((L:Int)+(k:Int)))):=by
     refine hg.below ?_
     rw [hGG];exact hB3
    have hrH:(w2.setCell ⟨G,73,none⟩ (.int .u64 ((L:Int)+(k:Int)))).rangeAt G 1 (nv .u32 h'):=λj v hv=>by
     have hj:j<8:=by
      rcases Nat.lt_or_ge j 8 with h0|h0
      ·exact h0
      ·rw [fA (by rw [aZ,hhl];exact h0)] at hv;cases hv
     rw [hS3.cell,aJv _ _ _ _ hhl j hj];exact hv
    have hrR:(w2.setCell ⟨G,73,none⟩ (.int .u64 ((L:Int)+(k:Int)))).rangeAt G 9 (nv .u8 (r'.take q++rest.take k)):=λj v hv=>by
     have hj:j<64:=by
      rcases Nat.lt_or_ge j 64 with h0|h0
      ·exact h0
      ·rw [fA (by rw [aZ,hl2];exact h0)] at hv;cases hv
     rw [hS3.cell,a0F _ _ _ _ hhl hl2 j hj];exact hv
    have hs8:(Tryz.prog.info? 71).map (·.size)=some (nv .u32 h').length:=by rw [aZ,hhl];kernel_rfl
    have hs64:(Tryz.prog.info? 72).map (·.size)=some (nv .u8 (r'.take q++rest.take k)).length:=by rw [aZ,hl2];kernel_rfl
    have hs8':=Lib.hid hs8
    have hs64':=Lib.hid hs64
    have hrH':=Lib.hid hrH
    have hrR':=Lib.hid hrR
    have hS3':=Lib.hid hS3
    have hE3':=Lib.hid hE3
    have hR3':=Lib.hid hR3
    have hl2':=Lib.hid hl2
    have hkl':=Lib.hid hkl
    clear hcs hs8 hs64 hrH hrR hok2 hS3 hE3 hR3 hl2 er hdl ev hS2 hkl
    go_wp2_with (first
     |(refine wpList_load_mid rfl 71 (.tmp 36) rfl G 1 rfl (nv .u32 h') _ hrH'.out Tryz.underlying71 rfl hs8'.out ?_)
     |(refine wpList_load_mid rfl 72 (.tmp 38) rfl G 9 rfl (nv .u8 (r'.take q++rest.take k)) _ hrR'.out Tryz.underlying72 rfl hs64'.out ?_)
     |(go_at_call 62;fail))
    all_goals
     have h1:=aNN h' (r'.take q++rest.take k) hhl hmem'.out.ok.hw hr2b hl2'.out _ hg3
     refine h1.mono ?_
     rintro e w4 ⟨rfl,b4⟩
     have hG3:=hS3'.out.lt
     have hS4:=hS3'.out.below b4 hG3
     have hE4:=hE3'.out.below b4 hE3'.out.lt
     have hR4:=hR3'.out.keep (w':=w4) λp hp=>b4.cell (eQ hp (bI hB (Nat.le_of_lt hG3)))
     have hB4:=hB3.trans (b4.mono (Nat.le_of_lt hG3))
     have hcl:(comp h' (r'.take q++rest.take k)).length=8:=W0 _ _
     have hst:=a3b (P:=Tryz.prog) hS4 1 .u32 (comp h' (r'.take q++rest.take k)) (by rw [gK _ _ _ _ hhl hl2'.out,hcl];omega)
     rw [aS2 _ _ _ _ _ hhl hcl] at hst
     have hvs:(va .u32 (comp h' (r'.take q++rest.take k))).size=8:=by rw [b9,hcl]
     have hR5:=hR4.cut (k:=k) (cap:=n'+1) hkn (by omega)
     rw [if_neg (by omega),rT] at hR5
     simp only [Option.map_some,Nat.mul_one] at hR5
     have hR6:=Lib.hid hR5
     have hB5:=Lib.hid hB4
     clear h1 hR4 hR5 hB4 hcl
     go_wp2
     go_roundw
    case rel =>
     refine ⟨d++rest.take k,rest.drop k,comp h' (r'.take q++rest.take k),r'.take q++rest.take k,_,_,_,rfl,by rw [List.append_assoc,List.take_append_drop];exact hd'.out,⟨?_,?_,hok3.out,?_⟩,?_,hby.drop k,by omega,?_⟩
     ·rw [hdl'.out];exact hS4.row _
     ·exact hE4.rowFar (by omega) _
     ·exact eJ hB5.out (aS _) _
     ·first|exact hR6.out.keep λp hp=>World.cell?_of_block (sJ _ G _ p.block (by omega))|exact ⟨hR6.out.1,λh0=>absurd h0 (by omega)⟩
     ·rw [hdl'.out];have:=hle'.out;omega
    case measure=>simp [rH];omega
    case rel =>
     refine ⟨d++rest.take k,rest.drop k,comp h' (r'.take q++rest.take k),r'.take q++rest.take k,_,_,_,rfl,by rw [List.append_assoc,List.take_append_drop];exact hd'.out,⟨?_,?_,hok3.out,?_⟩,?_,hby.drop k,by omega,?_⟩
     ·rw [hdl'.out];exact hS4.row _
     ·exact hE4.rowFar (by omega) _
     ·exact eJ hB5.out (aS _) _
     ·first|exact hR6.out.keep λp hp=>World.cell?_of_block (sJ _ G _ p.block (by omega))|exact ⟨hR6.out.1,λh0=>absurd h0 (by omega)⟩
     ·rw [hdl'.out];have:=hle'.out;omega
    case measure=>simp [rH];omega
   ·obtain ⟨w2,hcp,hS2,hE2,hB2,hR2,hl2⟩:=hcs n' (by omega) (by omega) (by omega)
    have ht:((q:Int)+(n':Int)==64)=false:=by rw [beq_eq_false_iff_ne];omega
    have hcm2:=hS2.cell 73
    rw [N7 _ _ _ _ hmem'.out.ok.hl hl2] at hcm2
    have hfm2:=hS2.frozen 73
    have hS3:=hS2.set_ 73 (.int .u64 ((L+n':Nat):Int))
    rw [aMY _ _ _ _ _ hmem'.out.ok.hl hl2] at hS3
    have hS4:=Lib.hid hS3
    have hl3:=Lib.hid hl2
    clear hcs hl2 hS3
    go_wp2
    go_roundw
    case rel =>
     have ev:(L:Int)+(n':Int)=((L+n':Nat):Int):=by omega
     refine ⟨d++rest,[],h',r'.take q++(rest.take n'++r'.drop (q+n')),_,0,_,rfl,by rw [eC];exact hd'.out,⟨?_,?_,?_,?_⟩,⟨by simp [nv],λh0=>absurd h0 (by omega)⟩,Byt.nil,Nat.zero_le _,?_⟩
     ·rw [ev,eS,hL,hrl'.out];exact hS4.out
     ·exact hE2.far (p:=⟨G,73,none⟩) (by simp) _
     ·have hmore:=hmem'.out.ok.more rest hby (by rw [hL,hq'.out,hrl'.out];omega)
      rw [hL,hq'.out,hrl'.out] at hmore
      rw [show rest.take n'=rest from jB (by rw [hrl'.out];omega)]
      exact hmore
     ·exact hB2.setCell (aS _) _
     ·rw [eS,hL,hrl'.out];have:=hle'.out;omega
    case measure=>simp [rH];omega
  ·have hn0:n'=0:=by omega
   have hrest:rest=[]:=mJ (by omega)
   have hdlm:d=l++m:=by rw [<-hd,hrest,eC]
   have hpos':(n':Int)≤0:=by omega
   have hhl:=hmem.ok.hl
   have hrl2:=hmem.ok.len
   have hsz0:(Tryz.prog.info? 74).map (·.size)=some (bW true h' r' d.length).size:=by rw [gK _ _ _ _ hhl hrl2];kernel_rfl
   have hsz:=Lib.hid hsz0
   have hvs:(bW true h' r' d.length).size=74:=gK _ _ _ _ hhl hrl2
   have hst:=aBn (P:=Tryz.prog) hmem.e (bW true h' r' d.length) (by rw [aCF,hvs]) (sY _ _ _ _)
   have hmem':=Lib.hid hmem
   have hfin:=Lib.hid hdlm
   clear hsz0 hmem hdlm hrest hd hn0 hrl
   go_wp2_with (refine wpList_load_row rfl 74 (.tmp 2) rfl G rfl 74 (bW true h' r' d.length) (0,0) _ hmem'.out.s Tryz.underlying74 rfl hsz.out ?_)
   exact bodyPost_ret (results_cell_row rfl _ _ (G+1) 74 (bW true h' r' d.length) (0,0) _ rfl (hmem'.out.e.row _) Tryz.underlying74 rfl hsz.out) rfl
    ⟨h',r',by rw [hfin.out],by rw [<-hfin.out];exact hmem'.out.ok,by rw [hGG];exact eJ hmem'.out.bel (by omega) _⟩
theorem aEj:fZ [] hL dX:=⟨rfl,oZ,Byt.rep 64 0 (by omega),rfl,rfl⟩
theorem a3c:List.foldl (λ(cs:Array Value) (x:Value×Nat)=>cs.setIfInBounds (1+x.snd) x.fst) (oW.setIfInBounds 0 (Value.bool true)) (nv IntKind.u32 hL).zipIdx=bW true hL dX 0:=by kernel_rfl
set_option maxRecDepth 100000 in
theorem aNL(w:World)(hg:kA w):
 Calls Tryz.prog 11 #[] w λe w'=>e=.returned (.agg (bW true hL dX 0))∧Below w.heap.size w w':=by
 have hzv:=zvS
 have hs8:(Tryz.prog.info? 71).map (·.size)=some (nv .u32 hL).length:=by rw [aZ,oM];kernel_rfl
 have hs8':=Lib.hid hs8
 have hb:=a3c
 have hst:=aHZ (P:=Tryz.prog) w 74 oW (bW true hL dX 0) (by rw [aCF,gK _ _ _ _ oM oZ]) (sY _ _ _ _)
 have hvs:(bW true hL dX 0).size=74:=gK _ _ _ _ oM oZ
 clear hs8
 go_enter Tryz.func11,Tryz.ntmps11
 go_wp2_with (refine wpList_load_mid rfl 71 (.global 1) rfl 1 0 rfl (nv .u32 hL) _ (hg.alloc _).h Tryz.underlying71 rfl hs8'.out ?_)
 have hsz:(Tryz.prog.info? 74).map (·.size)=some (bW true hL dX 0).size:=by rw [hvs];kernel_rfl
 exact bodyPost_ret (results_cell_row rfl _ _ w.heap.size 74 (bW true hL dX 0) (0,0) _ rfl (aC.new _ _ _) Tryz.underlying74 rfl hsz) rfl ⟨rfl,(Below.refl _ _).alloc (aS _) _⟩
def mE:List Nat:=List.replicate 32 0
theorem D8:mE.length=32:=lR ..
theorem zvD(w:World):(zeroValue 32).run Tryz.prog w=.ok (.agg (va .u8 mE)) w:=by kernel_rfl
def fW(h:List Nat)(i:Nat):List Nat:=(List.range 32).map λj=>if j / 4<i then U0 (h.getD (j / 4) 0) 4 (j%4) else 0
theorem aAe(h:List Nat)(i:Nat):(fW h i).length=32:=by simp [fW]
theorem a5t(h:List Nat):fW h 0=mE:=by kernel_rfl
theorem bAj(h:List Nat):fW h 8=flat h:=by kernel_rfl
theorem aUl(h:List Nat):∀i,i<8->(fW h i).take (4*i)++(beB (h.getD i 0) 4++(fW h i).drop (4*i+4))=fW h (i+1)
 |0,_=>by kernel_rfl
 |1,_=>by kernel_rfl
 |2,_=>by kernel_rfl
 |3,_=>by kernel_rfl
 |4,_=>by kernel_rfl
 |5,_=>by kernel_rfl
 |6,_=>by kernel_rfl
 |7,_=>by kernel_rfl
 |n+8,h=>by omega
structure wD(G:Nat)(l h r out:List Nat)(w wr:World):Prop where
 s:aC wr G 74 (bW true h r l.length)
 d:aC wr (G+1) 32 (va .u8 out)
 ok:fZ l h r
 ol:out.length=32
 bel:Below G w wr
theorem aDz(l h r m:List Nat)(L n:Nat)(hL:l.length=L)(hn:m.length=n)(hok:fZ l h r)(hm:Byt m)(hlen:L+n<4611686018427387904)(w:World)(hg:kA w)(g:Nat)(hb:aC w g 5 (va .u8 m)):
 Calls Tryz.prog 12 #[.agg (bW true h r L),.slice (some ⟨g,0,none⟩) n n] w λe w' =>
  ∃h' r' n',e=.returned (.agg (bW true h' r' n'))∧n'=(l++m).length∧fZ (l++m) h' r'∧Below w.heap.size w w':=by
 subst hL hn
 refine (aEq l h r m _ m.length m.length w.heap.size hok hm (aS _) hlen _ hg (by have:=hb.reads hb.lt 0 m.length (by simp);simpa using this) (aS _)).mono ?_
 rintro e w' ⟨h',r',he,ok,b⟩
 exact ⟨h',r',_,he,rfl,ok,b⟩
theorem a2o(x:Nat)(hx:x<256):Byt [x]:=λy hy=>by simp at hy;omega
theorem aIP(l h r:List Nat)(x L:Nat)(hL:l.length=L)(hx:x<256)(hok:fZ l h r)(hlen:L+1<4611686018427387904)(W:World)(hg:kA W)(g:Nat)(hgg:W.heap.size=g):
 Calls Tryz.prog 12 #[.agg (bW true h r L),.slice (some ⟨g,0,none⟩) 1 1] (W.alloc (.cells #[.int .u8 (x:Int)] 5)) λe w' =>
  ∃h' r' n',e=.returned (.agg (bW true h' r' n'))∧n'=(l++[x]).length∧fZ (l++[x]) h' r'∧Below (W.alloc (.cells #[.int .u8 (x:Int)] 5)).heap.size (W.alloc (.cells #[.int .u8 (x:Int)] 5)) w':=by
 subst hgg
 have hb:aC (W.alloc (.cells #[.int .u8 (x:Int)] 5)) W.heap.size 5 (va .u8 [x]):=aC.new _ _ _
 exact aDz l h r [x] L 1 hL rfl hok (a2o x hx) hlen _ (hg.alloc _) _ hb
set_option maxRecDepth 100000 in
theorem aJU(l h r:List Nat)(hok:fZ l h r)(hlen:l.length<1152921504606846976)(w:World)(hg:kA w):
 Calls Tryz.prog 13 #[.agg (bW true h r l.length)] w λe w'=>e=.returned (.agg (va .u8 (sha l)))∧Below w.heap.size w w':=by
 have hzv:=zvD
 go_enter Tryz.func13,Tryz.ntmps13
 have hm0:wD w.heap.size l h r mE w ((w.alloc (.cells (bW true h r l.length) 74)).alloc (.cells (va .u8 mE) 32)):=by
  refine ⟨(aC.new _ _ _).alloc _,?_,hok,D8,((Below.refl _ _).alloc (aS _) _).alloc (by simp) _⟩
  have:=aC.new (w.alloc (.cells (bW true h r l.length) 74)) 32 (va .u8 mE)
  simpa using this
 have hcm:=hm0.s.cell 73
 rw [N7 _ _ _ _ hok.hl hok.len] at hcm
 have hm1:=Lib.hid hm0
 clear hm0
 have hsz0:(Tryz.prog.info? 74).map (·.size)=some (bW true h r l.length).size:=by rw [gK _ _ _ _ hok.hl hok.len];kernel_rfl
 have hsz:=Lib.hid hsz0
 clear hsz0
 go_wp2_with (first
  |(refine wpList_load_row rfl 74 (.tmp 1) rfl w.heap.size rfl 74 (bW true h r l.length) (0,0) _ hm1.out.s Tryz.underlying74 rfl hsz.out ?_)
  |(go_at_call 12;fail))
 refine (aIP l h r 128 _ rfl (by omega) hok (by omega) _ ((hg.alloc _).alloc _) _ (by simp)).mono ?_
 rintro e w2 ⟨h1,r1,n1,rfl,hn1,hok1,b2⟩
 have hS2:=(hm1.out.s.alloc (Obj.cells #[Value.int .u8 128] 5)).below b2 (by simp;omega)
 have hD2:=(hm1.out.d.alloc (Obj.cells #[Value.int .u8 128] 5)).below b2 (by simp)
 have hB2:Below w.heap.size w w2:=(hm1.out.bel.alloc hm1.out.bel.size _).trans (b2.mono (by simp;omega))
 have hvs:(bW true h1 r1 n1).size=74:=gK _ _ _ _ hok1.hl hok1.len
 have hst:=aBn (P:=Tryz.prog) hS2 (bW true h1 r1 n1) (by rw [hvs,gK _ _ _ _ hok.hl hok.len]) (sY _ _ _ _)
 have hm2:wD w.heap.size (gL l 0) h1 r1 mE w (w2.setRow w.heap.size (bW true h1 r1 n1)):=by
  rw [aL3]
  exact ⟨hn1▸(hS2.row _),hD2.rowFar (by omega) _,hok1,D8,eJ hB2 (aS _) _⟩
 have hm3:=Lib.hid hm2
 have hG1:1<w.heap.size:=by have h1:=hg.lk;have h2:=hg.lh;omega
 clear hm2 hsz hm1 hcm hS2 hD2 hB2 hok1 b2 hn1
 go_wp2
 clear hst hvs
 generalize w2.setRow w.heap.size (bW true h1 r1 n1)=w3 at *
 go_loopg [] (zeros l.length) (λgk wr=>∃(h' r':List Nat),gk≤zeros l.length∧wD w.heap.size (gL l (zeros l.length-gk)) h' r' mE w wr)
 case atStart=>exact ⟨h1,r1,aS _,by rw [Nat.sub_self];exact hm3.out⟩
 case round =>
  clear hm3
  obtain ⟨h',r',hgk,hmem⟩:=hrel
  obtain ⟨k,hk⟩:∃k,zeros l.length-gk=k:=⟨_,rfl⟩
  rw [hk] at hmem
  have hpl:=a6u l k
  have hcm:=hmem.s.cell 73
  rw [N7 _ _ _ _ hmem.ok.hl hmem.ok.len] at hcm
  have hz:=aLF l.length
  have hstop:=aMC l.length k (by omega)
  have hmem':=Lib.hid hmem
  have hgw:kA wr:=hg.below hmem.bel
  have hsz0:(Tryz.prog.info? 74).map (·.size)=some (bW true h' r' (gL l k).length).size:=by rw [gK _ _ _ _ hmem.ok.hl hmem.ok.len];kernel_rfl
  have hsz:=Lib.hid hsz0
  by_cases hlt:k=zeros l.length
  ·have hlen56:(l.length+1+k)%64=56:=hstop.mpr hlt
   have ht:(((gL l k).length:Int)%64 != 56)=false:=by rw [bne_eq_false_iff_eq];omega
   have hk2:k<64:=by omega
   have hpl':=Lib.hid hpl
   have hlt':=Lib.hid hlt
   clear hsz0 hmem hstop hpl hlen56 hlt
   generalize hL:(gL l k).length=L at *
   have hmul:IntKind.u64.wrap (8*(l.length:Int))=((8*l.length:Nat):Int):=by
    rw [show IntKind.u64.wrap (8*(l.length:Int))=(8*(l.length:Int))%18446744073709551616 from rfl];omega
   generalize hM:8*l.length=M at *
   have hbm:=beB_byt M 8
   go_upto_region 5 with fail
   go_cut [] (λwx=>∃(h2 r2:List Nat),wD w.heap.size (cV l) h2 r2 mE w wx)
   case first =>
    have hBd:=hmem'.out.bel.drew
    have hSd:aC wr.drew w.heap.size 74 (bW true h' r' L):=by have:=hmem'.out.s;rw [hL] at this;exact this.drew
    have hDd:=hmem'.out.d.drew
    refine wp_region_any (by kernel_rfl) ?_
    change wpAny _ _ _ _ _ _ _ (World.drew _)
    refine wpAny_take (i:=1) (v:=.int .u64 (l.length:Int)) rfl (by kernel_rfl) (by kernel_rfl) (by kernel_rfl) (λ_ _ _ h=>h) (Or.inl ⟨by rfl,by intro w;go_simp⟩) ?_
    refine wpAny_take (i:=2) (v:=.int .u64 (M:Int)) rfl (by kernel_rfl) (by kernel_rfl) (by kernel_rfl) (λ_ _ _ h=>h) (Or.inl ⟨by rfl,by intro w;go_simp⟩) ?_
    refine wpAny_ready (rs:=[0,3]) (by kernel_rfl) (by simp) ?_
    refine AllReady.cons rfl (λK hK=>?_) (AllReady.cons rfl (λK hK=>?_) AllReady.nil)
    ·refine aOs rfl 74 (.tmp 1) rfl w.heap.size rfl 74 (bW true h' r' L) (by with_reducible assumption) _ Tryz.underlying74 rfl hsz.out ?_
     refine hK _ _ ?_
     clear hK K
     refine wpAny_ready (rs:=[3]) (by kernel_rfl) (by simp) ?_
     refine AllReady.cons rfl (λK hK=>?_) AllReady.nil
     go_simp
     go_at_call 63
     refine (aD0 M _).mono ?_
     rintro e w2 ⟨r,rfl,g,rfl,hb2,hg2,b2⟩
     have hS2:=hSd.below b2 hSd.lt
     have hD2:=hDd.below b2 hDd.lt
     have hB2:=hBd.trans (b2.mono hBd.size)
     refine hK _ _ ?_
     clear hK K
     refine wpAny_ready (rs:=[4]) (by kernel_rfl) (by simp) ?_
     refine AllReady.cons rfl (λK hK=>?_) AllReady.nil
     go_simp
     go_at_call 12
     refine (aDz (gL l k) h' r' (beB M 8) L (beB M 8).length hL rfl hmem'.out.ok hbm (by have h1:=hpl'.out;have h2:=beB_len M 8;omega) _ (hg.below hB2) _ hb2).mono ?_
     rintro e w4 ⟨h4,r4,n4,rfl,hn4,ok4,b4⟩
     have hS4:=hS2.below b4 hS2.lt
     have hD4:=hD2.below b4 hD2.lt
     have hB4:=hB2.trans (b4.mono hB2.size)
     refine hK _ _ ?_
     clear hK K
     refine wpAny_ready (rs:=[5]) (by kernel_rfl) (by simp) ?_
     refine AllReady.cons rfl (λK hK=>?_) AllReady.nil
     refine aIe rfl 74 (.tmp 1) (.tmp 22) rfl w.heap.size rfl (bW true h4 r4 n4) rfl 74 (bW true h' r' L) hS4 (by rw [gK _ _ _ _ hmem'.out.ok.hl hmem'.out.ok.len,gK _ _ _ _ ok4.hl ok4.len]) (by rw [gK _ _ _ _ ok4.hl ok4.len];kernel_rfl) (sY _ _ _ _) ?_
     refine hK _ _ ?_
     clear hK K
     refine wpAny_done (by kernel_rfl) ?_ _
     go_wp2_with fail
     go_meet
     have hpd:gL l k++beB M 8=cV l:=by rw [hlt'.out,<-hM];rfl
     rw [hpd] at hn4 ok4
     exact ⟨h4,r4,hn4▸(hS4.row _),hD4.rowFar (by omega) _,ok4,D8,eJ hB4 (aS _) _⟩
    ·go_simp
     go_at_call 63
     refine (aD0 M _).mono ?_
     rintro e w2 ⟨r,rfl,g,rfl,hb2,hg2,b2⟩
     have hS2:=hSd.below b2 hSd.lt
     have hD2:=hDd.below b2 hDd.lt
     have hB2:=hBd.trans (b2.mono hBd.size)
     refine hK _ _ ?_
     clear hK K
     refine wpAny_ready (rs:=[0]) (by kernel_rfl) (by simp) ?_
     refine AllReady.cons rfl (λK hK=>?_) AllReady.nil
     refine aOs rfl 74 (.tmp 1) rfl w.heap.size rfl 74 (bW true h' r' L) (by with_reducible assumption) _ Tryz.underlying74 rfl hsz.out ?_
     refine hK _ _ ?_
     clear hK K
     refine wpAny_ready (rs:=[4]) (by kernel_rfl) (by simp) ?_
     refine AllReady.cons rfl (λK hK=>?_) AllReady.nil
     go_simp
     go_at_call 12
     refine (aDz (gL l k) h' r' (beB M 8) L (beB M 8).length hL rfl hmem'.out.ok hbm (by have h1:=hpl'.out;have h2:=beB_len M 8;omega) _ (hg.below hB2) _ hb2).mono ?_
     rintro e w4 ⟨h4,r4,n4,rfl,hn4,ok4,b4⟩
     have hS4:=hS2.below b4 hS2.lt
     have hD4:=hD2.below b4 hD2.lt
     have hB4:=hB2.trans (b4.mono hB2.size)
     refine hK _ _ ?_
     clear hK K
     refine wpAny_ready (rs:=[5]) (by kernel_rfl) (by simp) ?_
     refine AllReady.cons rfl (λK hK=>?_) AllReady.nil
     refine aIe rfl 74 (.tmp 1) (.tmp 22) rfl w.heap.size rfl (bW true h4 r4 n4) rfl 74 (bW true h' r' L) hS4 (by rw [gK _ _ _ _ hmem'.out.ok.hl hmem'.out.ok.len,gK _ _ _ _ ok4.hl ok4.len]) (by rw [gK _ _ _ _ ok4.hl ok4.len];kernel_rfl) (sY _ _ _ _) ?_
     refine hK _ _ ?_
     clear hK K
     refine wpAny_done (by kernel_rfl) ?_ _
     go_wp2_with fail
     go_meet
     have hpd:gL l k++beB M 8=cV l:=by rw [hlt'.out,<-hM];rfl
     rw [hpd] at hn4 ok4
     exact ⟨h4,r4,hn4▸(hS4.row _),hD4.rowFar (by omega) _,ok4,D8,eJ hB4 (aS _) _⟩
   case rest =>
    obtain ⟨h2,r2,hsum⟩:=hcut
    clear hmem' hsz hpl' hlt' hgw
    have hhl:=hsum.ok.hl
    have hS:=hsum.s
    have hrH:wc.rangeAt w.heap.size 1 (nv .u32 h2):=λj v hv=>by
     have hj:j<8:=by
      rcases Nat.lt_or_ge j 8 with h0|h0
      ·exact h0
      ·rw [fA (by rw [aZ,hhl];exact h0)] at hv;cases hv
     rw [hS.cell,aJv _ _ _ _ hhl j hj];exact hv
    have hs8:(Tryz.prog.info? 71).map (·.size)=some (nv .u32 h2).length:=by rw [aZ,hhl];kernel_rfl
    have hrH':=Lib.hid hrH
    have hs8':=Lib.hid hs8
    have hsum':=Lib.hid hsum
    clear hrH hs8 hsum hS hhl
    go_wp2_with (refine wpList_load_mid rfl 71 (.tmp 23) rfl w.heap.size 1 rfl (nv .u32 h2) _ hrH'.out Tryz.underlying71 rfl hs8'.out ?_)
    clear hrH' hs8'
    go_loopw [25] (λs wr=>∃(i:Nat),i≤8∧s=.int .i64 (i:Int)∧wD w.heap.size (cV l) h2 r2 (fW h2 i) w wr) (λs _=>8-(intOf s).toNat)
    case atStart=>exact ⟨0,by omega,rfl,by rw [a5t];exact hsum'.out⟩
    case round =>
     obtain ⟨i,hi,rfl,hm4⟩:=hrel
     clear hsum'
     have hm4':=Lib.hid hm4
     by_cases hlt:i<8
     ·have hlt':(i:Int)<8:=by omega
      have hv:=hm4.ok.hw i
      have hix:(nv .u32 h2)[i]?=some (.int .u32 ((h2.getD i 0:Nat):Int)):=mL (by rw [hm4.ok.hl];exact hlt)
      clear hm4
      obtain ⟨iu,hiu,hiu0,hiu1,hiu2⟩:=info_parts aJH
      have hidx:=aAs (P:=Tryz.prog) (kk:=.i64) (l:=h2) (i:=i) Tryz.underlying71 Tryz.underlying57 hiu hiu1 hm4'.out.ok.hl hlt
      rw [show va .u32 h2=(nv .u32 h2).toArray from rfl] at hidx
      clear hiu hiu0 hiu1 hiu2
      obtain ⟨v,hvv⟩:∃v,h2.getD i 0=v:=⟨_,rfl⟩
      rw [hvv] at hidx hix hv
      obtain ⟨o,ho⟩:∃o,4*i=o:=⟨_,rfl⟩
      have h4:IntKind.i64.wrap (4*(i:Int))=(o:Int):=(IntWalk.i64_in _ (by omega)).trans (by omega)
      have ho0:o+4≤32:=by omega
      have ho1:0≤(o:Int):=by omega
      have ho2:(o:Int)≤32:=by omega
      have ho3:¬ 32=o:=by omega
      have hD:aC wr.drew (w.heap.size+1) 32 (va .u8 (fW h2 i)):=hm4'.out.d.drew
      have hS:aC wr.drew w.heap.size 74 (bW true h2 r2 (cV l).length):=hm4'.out.s.drew
      have hBd:=hm4'.out.bel.drew
      have hvv':=Lib.hid hvv
      have ho':=Lib.hid ho
      clear hvv ho
      go_upto_region 9 with fail
      go_region_law (first
       |(go_simp;go_at_call 14;refine (aKr v hv _).mono ?_;rintro e w2 ⟨r,rfl,g,rfl,hb2,hg2,b2⟩
         have hD2:=hD.below b2 hD.lt
         have hS2:=hS.below b2 hS.lt
         have hB2:=hBd.trans (b2.mono hBd.size)
         have hcp:=λdL hdL=>aYO (w:=w2) 23 23 3 Tryz.underlying23 (w.heap.size+1) o dL dL 32 (fW h2 i) hD2 g (beB v 4).length (beB v 4).length 5 (beB v 4) hb2 rfl hdL (by rw [beB_len,aAe];exact ho0)
         have hcq:=hcp (32-o) (by rw [beB_len];omega)
         clear hcp))
      have hD3:=hD2.row (va .u8 ((fW h2 i).take o++(beB v 4++(fW h2 i).drop (o+(beB v 4).length))))
      have hS3:aC (w2.setRow (w.heap.size+1) (va .u8 ((fW h2 i).take o++(beB v 4++(fW h2 i).drop (o+(beB v 4).length))))) w.heap.size 74 (bW true h2 r2 (cV l).length):=hS2.rowFar (by omega) _
      have hB3:=eJ hB2 (show w.heap.size≤w.heap.size+1 from by omega) (va .u8 ((fW h2 i).take o++(beB v 4++(fW h2 i).drop (o+(beB v 4).length))))
      have heq:(fW h2 i).take o++(beB v 4++(fW h2 i).drop (o+(beB v 4).length))=fW h2 (i+1):=by
       rw [beB_len,<-hvv'.out,<-ho'.out];exact aUl h2 i hlt
      rw [heq] at hD3 hS3 hB3
      have hm5:wD w.heap.size (cV l) h2 r2 (fW h2 (i+1)) w (w2.setRow (w.heap.size+1) (va .u8 (fW h2 (i+1)))):=⟨hS3,hD3,hm4'.out.ok,aAe _ _,hB3⟩
      have hm6:=Lib.hid hm5
      have heq':=Lib.hid heq
      clear hm5 hS3 hD3 hB3 heq hS2 hD2 hB2 hcq
      go_wp2
      go_roundw
      case rel=>exact ⟨i+1,by omega,by go_num,by rw [heq'.out];exact hm6.out⟩
      case measure=>simp [intOf];omega
     ·obtain rfl:i=8:=by omega
      have hsz:(Tryz.prog.info? 32).map (·.size)=some (va .u8 (fW h2 8)).size:=by rw [b9,aAe];kernel_rfl
      have hsz':=Lib.hid hsz
      have hvs:(va .u8 (fW h2 8)).size=32:=by rw [b9,aAe]
      have hst:=mU (P:=Tryz.prog) hm4.d .u8 (fW h2 8) (by rw [b9])
      clear hm4 hsz
      go_wp2_with (refine wpList_load_row rfl 32 (.tmp 2) rfl (w.heap.size+1) rfl 32 (va .u8 (fW h2 8)) (0,0) _ hm4'.out.d Tryz.underlying32 rfl hsz'.out ?_)
      have hfin:fW h2 8=sha l:=by
       rw [bAj,hm4'.out.ok.h];rfl
      exact bodyPost_ret (results_cell_row rfl _ _ (w.heap.size+1) 32 (va .u8 (fW h2 8)) (0,0) _ rfl (hm4'.out.d.row _) Tryz.underlying32 rfl hsz'.out) rfl
       ⟨by rw [hfin],eJ hm4'.out.bel (by omega) _⟩
  ·have hne:¬ (l.length+1+k)%64=56:=λh0=>hlt (hstop.mp h0)
   have ht:(((gL l k).length:Int)%64 != 56)=true:=by rw [bne_iff_ne];omega
   have hk2:k<64:=by omega
   clear hsz0 hmem hstop
   have hpl':=Lib.hid hpl
   clear hpl
   generalize hL:(gL l k).length=L at *
   go_wp2_with (first
    |(refine wpList_load_row rfl 74 (.tmp 1) rfl w.heap.size rfl 74 (bW true h' r' L) (0,0) _ (hL▸hmem'.out.s) Tryz.underlying74 rfl hsz.out ?_)
    |(go_at_call 12;fail))
   have hpl2:=hpl'.out
   refine (aIP (gL l k) h' r' 0 L hL (by omega) hmem'.out.ok (by omega) _ hgw _ rfl).mono ?_
   rintro e w2 ⟨h2,r2,n2,rfl,hn2,hok2,b2⟩
   have hS2:=(hmem'.out.s.alloc (Obj.cells #[Value.int .u8 0] 5)).below b2 (by have:=hmem'.out.s.lt;simp;omega)
   have hD2:=(hmem'.out.d.alloc (Obj.cells #[Value.int .u8 0] 5)).below b2 (by have:=hmem'.out.d.lt;simp;omega)
   have hB2:Below w.heap.size w w2:=(hmem'.out.bel.alloc hmem'.out.bel.size _).trans (b2.mono (by have:=hmem'.out.s.lt;simp;omega))
   have hvs:(bW true h2 r2 n2).size=74:=gK _ _ _ _ hok2.hl hok2.len
   have hst:=aBn (P:=Tryz.prog) hS2 (bW true h2 r2 n2) (by rw [hvs,gK _ _ _ _ hmem'.out.ok.hl hmem'.out.ok.len]) (sY _ _ _ _)
   rw [aOl] at hn2 hok2
   have hm2:wD w.heap.size (gL l (k+1)) h2 r2 mE w (w2.setRow w.heap.size (bW true h2 r2 n2)) :=
    ⟨hn2▸(hS2.row _),hD2.rowFar (by omega) _,hok2,D8,eJ hB2 (aS _) _⟩
   have hm3:=Lib.hid hm2
   clear hm2 hS2 hD2 hB2 hok2 b2 hn2
   go_wp2
   go_roundg (gk-1)
   case rel=>exact ⟨h2,r2,by omega,by rw [show zeros l.length-(gk-1)=k+1 from by omega];exact hm3.out⟩
   case measure=>omega
structure aEE(G S:Nat)(l h r:List Nat)(w wr:World):Prop where
 d:aC wr G 32 (va .u8 mE)
 s:aC wr S 74 (bW true h r l.length)
 ok:fZ l h r
 bel:Below G w wr
set_option maxRecDepth 100000 in
theorem aTT(ms:List (List Nat))(n c B:Nat)(A:Option Addr)(w:World)(hg:kA w)(hp:J3 w B A n ms)(hn:n<4611686018427387904)(hB:B≤w.heap.size)(hlen:ms.flatten.length<1152921504606846976):
 Calls Tryz.prog 10 #[.slice A n c] w λe w'=>e=.returned (.agg (va .u8 (sha ms.flatten)))∧Below w.heap.size w w':=by
 have hzv:=zvD
 have hzs:=zvS
 have hpn:=hp.1
 have hp':=Lib.hid hp
 have hB':=Lib.hid hB
 have hlen':=Lib.hid hlen
 clear hp hB hlen
 go_enter Tryz.func10,Tryz.ntmps10
 go_wp2_with fail
 have hgn:=hg.alloc (Obj.cells (va .u8 mE) 32)
 refine (aNL _ hgn).mono ?_
 rintro e w1 ⟨rfl,b1⟩
 have hst:=aHZ (P:=Tryz.prog) w1 74 oW (bW true hL dX 0) (by rw [aCF,gK _ _ _ _ oM oZ]) (sY _ _ _ _)
 have hvs:(bW true hL dX 0).size=74:=gK _ _ _ _ oM oZ
 have hbel1:Below w.heap.size w w1:=((Below.refl _ _).alloc (aS _) _).trans (b1.mono (by simp))
 have hm0:aEE w.heap.size w1.heap.size [] hL dX w (w1.alloc (.cells (bW true hL dX 0) 74)) :=
  ⟨((aC.new w _ _).below b1 (by simp)).alloc _,aC.new _ _ _,aEj,hbel1.alloc hbel1.size _⟩
 have hm1:=Lib.hid hm0
 have hGS:w.heap.size<w1.heap.size:=by have:=b1.size;simp at this;omega
 have hG1:1<w.heap.size:=by have h1:=hg.lk;have h2:=hg.lh;omega
 clear hm0 hbel1 b1 hgn
 go_wp2
 clear hst hvs
 generalize (w1.alloc (.cells (bW true hL dX 0) 74))=w2 at *
 generalize hSS:w1.heap.size=S at *
 go_loopw [9] (λs wr=>∃(k:Nat) (h r:List Nat),k≤n∧s=.int .i64 (k:Int)∧aEE w.heap.size S (ms.take k).flatten h r w wr) (λs _=>n-(intOf s).toNat)
 case atStart=>exact ⟨0,hL,dX,by omega,rfl,hm1.out⟩
 case round =>
  obtain ⟨k,h,r,hk,rfl,hmem⟩:=hrel
  clear hm1
  obtain ⟨l,hl⟩:∃l,(ms.take k).flatten=l:=⟨_,rfl⟩
  rw [hl] at hmem
  have hmem':=Lib.hid hmem
  have hsz0:(Tryz.prog.info? 74).map (·.size)=some (bW true h r l.length).size:=by rw [gK _ _ _ _ hmem.ok.hl hmem.ok.len];kernel_rfl
  have hsz:=Lib.hid hsz0
  have hgw:=hg.below hmem.bel
  clear hsz0 hmem
  by_cases hlt:k<n
  ·have hlt':(k:Int)<(n:Int):=by omega
   obtain ⟨ad,Ai,ni,ci,rfl,hadB,hc0,hnc,hr0,hby⟩:=hp'.out.2 k hlt
   have hb2:=hmem'.out.bel.mono hB'.out
   have hc:wr.cell? (ad.add k)=some (.slice Ai ni ci):=(hb2.cell (p:=ad.add k) (by rw [a3y];exact hadB)).trans hc0
   have hrr:=hr0.below hb2
   have hmn:=hrr.len
   have hstep:=I8 ms k (by omega)
   have hl2:=aFn ms (k+1)
   rw [hl] at hstep
   rw [hstep,eS,hmn] at hl2
   have hlw:l.length+ni<4611686018427387904:=by have:=hlen'.out;omega
   have hBw:B≤wr.heap.size:=bI hB'.out hmem'.out.bel.size
   have hl3:=Lib.hid hl
   have hst2:=Lib.hid hstep
   have hlw':=Lib.hid hlw
   have hBw':=Lib.hid hBw
   have hmn':=Lib.hid hmn
   clear hc0 hr0 hb2 hl2 hl hstep hlw hBw hmn
   go_wp2_with (first
    |(refine wpList_load_row rfl 74 (.tmp 3) rfl S rfl 74 (bW true h r l.length) (0,0) _ hmem'.out.s Tryz.underlying74 rfl hsz.out ?_)
    |(go_at_call 12;fail))
   refine (aEq l h r (ms.getD k []) Ai ni ci B hmem'.out.ok hby hnc hlw'.out _ hgw hrr hBw'.out).mono ?_
   rintro e w3 ⟨h2,r2,rfl,ok3,b3⟩
   obtain ⟨n3,hn3⟩:∃n3,(l++ms.getD k []).length=n3:=⟨_,rfl⟩
   rw [hn3]
   have hS3:=hmem'.out.s.below b3 hmem'.out.s.lt
   have hD3:=hmem'.out.d.below b3 hmem'.out.d.lt
   have hB3:=hmem'.out.bel.trans (b3.mono hmem'.out.bel.size)
   have hvs:(bW true h2 r2 n3).size=74:=gK _ _ _ _ ok3.hl ok3.len
   have hst:=aBn (P:=Tryz.prog) hS3 (bW true h2 r2 n3) (by rw [hvs,gK _ _ _ _ hmem'.out.ok.hl hmem'.out.ok.len]) (sY _ _ _ _)
   have hm2:aEE w.heap.size S (ms.take (k+1)).flatten h2 r2 w (w3.setRow S (bW true h2 r2 n3)):=by
    rw [hst2.out]
    exact ⟨hD3.rowFar (by omega) _,by rw [hn3];exact hS3.row _,ok3,eJ hB3 (by omega) _⟩
   have hm3:=Lib.hid hm2
   clear hm2 hS3 hD3 hB3 ok3 b3 hn3
   go_wp2
   go_roundw
   case rel=>exact ⟨k+1,h2,r2,by omega,by go_num,hm3.out⟩
   case measure=>simp [intOf];omega
  ·obtain rfl:n=k:=by omega
   have hfull:l=ms.flatten:=by rw [<-hl,jB (by omega)]
   have hf':=Lib.hid hfull
   clear hfull hl
   go_wp2_with (first
    |(refine wpList_load_row rfl 74 (.tmp 3) rfl S rfl 74 (bW true h r l.length) (0,0) _ hmem'.out.s Tryz.underlying74 rfl hsz.out ?_)
    |(go_at_call 13;fail))
   refine (aJU l h r hmem'.out.ok (by rw [hf'.out];exact hlen'.out) _ hgw).mono ?_
   rintro e w3 ⟨rfl,b3⟩
   have hD3:=hmem'.out.d.below b3 hmem'.out.d.lt
   have hB3:=hmem'.out.bel.trans (b3.mono hmem'.out.bel.size)
   have hvs:(va .u8 (sha l)).size=32:=by rw [b9,aLq]
   have hst:=mU (P:=Tryz.prog) hD3 .u8 (sha l) (by rw [b9,aLq,D8])
   have hsz2:(Tryz.prog.info? 32).map (·.size)=some (va .u8 (sha l)).size:=by rw [hvs];kernel_rfl
   have hsz3:=Lib.hid hsz2
   clear hsz2
   go_wp2
   exact bodyPost_ret (results_cell_row rfl _ _ w.heap.size 32 (va .u8 (sha l)) (0,0) _ rfl (hD3.row _) Tryz.underlying32 rfl hsz3.out) rfl
    ⟨by rw [hf'.out],eJ hB3 (aS _) _⟩
end Go.Proofs.YtjboelhcieepkaaGreatDoor
namespace Go.Proofs.YtjboelhcieepkaaGreatDoor
open Go.RowKit Go.ChangeShapes Go.WideShapes
section
variable {H:Type}{enc:TypeId×Value->H}{P:Program}{t e:TypeId}{n:Nat}{q:IntKind}{w:World}{base:Nat}{sp:Nat->Bool}{held:Bool}
theorem aIb(he:P.underlying e=some (.int q)){m:Nat}{cs:List Value}:∀(L:List Nat) (xs:List (DataW H×List MemPlace)),
 L.mapM (λi=>DataW.trod enc P w base sp held m e ((cs.drop (i*1)).take 1))=some xs ->
 ∃zs:List Int,xs=zs.map (λz=>(.lit (.int q z),[]))∧zs.length=L.length∧(∀z∈zs,(Lit.int q z).wf=true)∧∀j (hj:j<L.length) (hz:j<zs.length),cs[L[j]]?=some (.int q zs[j])
 |[],xs,h=>by
  simp at h
  subst h
  exact ⟨[],rfl,rfl,(λz hz=>by cases hz),(λj hj=>by cases hj)⟩
 |i::L,xs,h=>by
  rw [List.mapM_cons] at h
  simp only [bind,Option.bind_eq_some_iff,pure,b6] at h
  obtain ⟨y,hy,ys,hys,rfl⟩:=h
  obtain ⟨zs,rfl,hl,hw,hc⟩:=aIb he L ys hys
  obtain ⟨a,ea,rfl,wa⟩:=DataW.trod_int he hy
  refine ⟨a::zs,rfl,by simp [hl],λz hz=>?_,λj hj hz=>?_⟩
  ·rcases bG.1 hz with rfl|h0
   ·exact wa
   ·exact hw z h0
  ·cases j with
   |zero =>
    have:=congrArg (λl:List Value=>l[0]?) ea
    simpa [List.getElem?_take,List.getElem?_drop] using this
   |succ j=>exact hc j (by simpa using hj) (by simpa using hz)
end
theorem aDB(q:IntKind)(m:Nat)(hq:∀z:Int,(Lit.int q z).wf=true->0≤z∧z<(m:Int)):∀zs:List Int,(∀z∈zs,(Lit.int q z).wf=true)->∃l:List Nat,zs=l.map (λx:Nat=>(x:Int))∧∀x∈l,x<m
 |[],_=>⟨[],rfl,λ_ h=>by cases h⟩
 |z::zs,hw=>by
  obtain ⟨h0,h1⟩:=hq z (hw z (List.mem_cons_self ..))
  obtain ⟨l,rfl,hl⟩:=aDB q m hq zs (λy hy=>hw y (List.mem_cons_of_mem _ hy))
  refine ⟨z.toNat::l,?_,λx hx=>?_⟩
  ·rw [List.map_cons];congr 1;omega
  ·rcases bG.1 hx with rfl|h2
   ·omega
   ·exact hl x h2
theorem xY(z:Int)(h:(Lit.int .u8 z).wf=true):0≤z∧z<((256:Nat):Int):=by
 have hx:0≤z∧z≤255:=by simpa [Lit.wf,IntKind.min,IntKind.max,IntKind.signed,IntKind.bits] using h
 omega
theorem aXa:laidOutB Tryz.prog=true:=by kernel_rfl
section
variable {H:Type}{enc:TypeId×Value->H}{P:Program}
theorem aLr(hl:laidOutB P=true){W W':World}(hb:Below W.heap.size W W'){sp:Nat->Bool}:∀{ts:List TypeId} {vs:List Value} {ds:List (DataW H)} {ps:List MemPlace},
 (∀t∈ts,P.readableRec t=true∧t<P.types.size)->DataW.TrodAll enc P W 0 (λ_=>true) true ts vs ds ps->(∀x∈ps,x.block<W.heap.size)->(∀x∈ps,sp x.block=true)->DataW.TrodAll enc P W' 0 sp true ts vs ds ps
 |[],[],[],_,_,h,_,_=>h
 |_::_,_::_,_::_,_,hT,⟨p,q,h1,h2,e⟩,hlt,hs =>
  ⟨p,q,WideElems.Trod_stays hl (hT _ (List.mem_cons_self ..)).1 (hT _ (List.mem_cons_self ..)).2 h1 (λx hx=>hb.same (hlt x (by rw [e];exact kJ _ hx))) (λx hx=>hs x (by rw [e];exact kJ _ hx)),
   aLr hl hb (λt ht=>hT t (List.mem_cons_of_mem _ ht)) h2 (λx hx=>hlt x (by rw [e];exact gW _ hx)) (λx hx=>hs x (by rw [e];exact gW _ hx)),e⟩
theorem aZV{f:Func}{s:ChangeSpec}{apart fresh handsOn again:Bool}{W W':World}{args:Array Value}{v:Value}{ds:List (DataW H)}{before:List MemPlace}
 (hl:laidOutB P=true) (hT:∀t∈f.params.toList,P.readableRec t=true∧t<P.types.size)
 (hW:DataW.Whole enc P f.params.toList s.vars apart W args.toList ds [] before) (hA:DataW.TrodAll enc P W 0 (λ_=>true) true f.params.toList args.toList ds before)
 (hvs:∀sp:Nat->Bool,DataW.TrodVars enc P W' sp s.vars (s.fn H (ds++[])).vars [])
 (hres:∀(b:Nat) (sp:Nat->Bool) (hd:Bool),DataW.TrodAll enc P W' b sp hd f.resultTypes.toList (v.resultList f.resultTypes.size) (s.fn H (ds++[])).results [])
 (hargs:(s.fn H (ds++[])).args=ds) (hb:Below W.heap.size W W')
 (hok:∀(j:Nat) (t:TypeId) (r:Value),f.resultTypes[j]?=some t->(v.resultList f.resultTypes.size)[j]?=some r->Value.okWide P W' .any 0 t r) :
 s.post enc P f apart fresh handsOn again W args v W' :=
 a4w (pa:=before) (pv:=[]) hW hres (λsp hsp=>by rw [hargs];exact aLr hl hb hT hA (λp hp=>hW.lt p hp) hsp) (λsp _=>hvs sp) (by simp) hb hok
end
end Go.Proofs.YtjboelhcieepkaaGreatDoor
namespace Go.Proofs.YtjboelhcieepkaaGreatDoor
open Go.RowKit Go.WideShapes Go.ChangeShapes Go.Joins
section
variable {H:Type}{enc:TypeId×Value->H}{W:World}
theorem aYD{P:Program}{t e:TypeId}{q:IntKind}(M:Nat)(hq:∀z:Int,(Lit.int q z).wf=true->0≤z∧z<(M:Int))(ht:P.underlying t=some (.slice e))(he:P.underlying e=some (.int q))(hc:P.cellsOf e=1){fuel:Nat}{cs:List Value}{x:DataW H×List MemPlace}
 (h:DataW.trod enc P W 0 (λ_=>true) true fuel t cs=some x) :
 ∃(A:Option Addr) (n c:Nat) (l:List Nat),cs=[.slice A n c]∧bH W W.heap.size 1 A n (nv q l)∧n≤c∧(∀y∈l,y<M):=by
 rcases open_ints ht he hc h with ⟨rfl,_⟩|⟨a,len,cap,zs,rfl,_,hl,_,hz,_,hcell,hwz⟩
 ·exact ⟨none,0,0,[],rfl,bH.none_,aS _,λy hy=>by cases hy⟩
 ·simp only [if_true] at hz
  obtain ⟨l,hl0,hlt⟩:=aDB q M hq (zs.take len) (λz hz'=>hwz z (List.mem_of_mem_take hz'))
  have hll:l.length=len:=by
   have:=congrArg List.length hl0
   rw [List.length_take,List.length_map] at this
   omega
  refine ⟨some a,len,cap,l,rfl,⟨by rw [aZ];omega,λhn=>⟨a,rfl,?_,λj u hu=>?_⟩⟩,hl,hlt⟩
  ·have h0:=hcell 0 (by omega)
   have:=World.block_lt_of_cell? W (a.add 0) h0
   rwa [D6] at this
  ·have hj:j<l.length:=by
    rcases Nat.lt_or_ge j l.length with h1|h1
    ·exact h1
    ·rw [fA (by rw [aZ];exact h1)] at hu;cases hu
   rw [mL hj] at hu
   rw [<-hu,hcell j (by omega)]
   congr 2
   have h1:(zs.take len).getD j 0=(l.map (λx:Nat=>(x:Int))).getD j 0:=by rw [hl0]
   simp only [cP,List.getElem?_take,jC] at h1
   rw [if_pos (by omega)] at h1
   simp only [cP]
   rw [h1,eZ hj]
   rfl
theorem aIl(q:IntKind)(M:Nat)(hq:∀z:Int,(Lit.int q z).wf=true->0≤z∧z<(M:Int)){z:Int}(h:(Lit.int q z).wf=true):∃a:Nat,z=(a:Int)∧a<M:=by
 obtain ⟨h0,h1⟩:=hq z h
 exact ⟨z.toNat,by omega,by omega⟩
theorem aYS{r0:Reach}{b0:Nat}{v:Value}{d:DataW H}{ps:List MemPlace}(hval:Value.okWide Tryz.prog W r0 b0 5 v)(hd:DataW.Trod enc Tryz.prog W 0 (λ_=>true) true 5 v d ps):∃x:Nat,v=.int .u8 (x:Int)∧x<256:=by
 obtain ⟨a,rfl,_,_,hw⟩:=open_int Tryz.underlying5 hval hd
 obtain ⟨m,rfl,hm⟩:=aIl .u8 256 xY hw
 exact ⟨m,rfl,hm⟩
theorem aMz{P:Program}{t e:TypeId}{n m:Nat}{q:IntKind}{cs:List Value}{x:DataW H×List MemPlace}(M:Nat)(hq:∀z:Int,(Lit.int q z).wf=true->0≤z∧z<(M:Int))(hu:P.underlying t=some (.array n e))(he:P.underlying e=some (.int q))(hc1:P.cellsOf e=1)(hlen:cs.length=n)
 (h:DataW.trod enc P W 0 (λ_=>true) true m t cs=some x):∃l:List Nat,cs=nv q l∧l.length=n∧∀y∈l,y<M:=by
 cases m with
 |zero=>simp [DataW.trod] at h
 |succ m =>
  rw [DataW.trod_step] at h
  unfold DataW.trodStep at h
  simp only [hu] at h
  split at h
  ·rw [hc1] at h
   simp only [dE] at h
   obtain ⟨ys,hy,_⟩:=h
   obtain ⟨zs,rfl,hl,hw,hc⟩:=aIb he _ ys hy
   rw [List.length_range] at hl
   obtain ⟨l,rfl,hb⟩:=aDB q M hq zs hw
   refine ⟨l,?_,by simpa using hl,hb⟩
   apply List.ext_getElem (by rw [aZ,hlen];simpa using hl.symm)
   intro i h1 h2
   have h3:i<l.length:=by rw [aZ] at h2;exact h2
   have h4:=hc i (by rw [List.length_range];omega) (by simpa using h3)
   simp at h4
   rw [eZ h1] at h4
   simpa [nv] using jR h4
  ·cases h
theorem P5{P:Program}{t:TypeId}{m:Nat}{q:IntKind}{cs:List Value}{x:DataW H×List MemPlace}(M:Nat)(hq:∀z:Int,(Lit.int q z).wf=true->0≤z∧z<(M:Int))(hu:P.underlying t=some (.int q))
 (h:DataW.trod enc P W 0 (λ_=>true) true m t cs=some x):∃y:Nat,cs=[.int q (y:Int)]∧y<M:=by
 obtain ⟨a,rfl,_,hw⟩:=DataW.trod_int hu h
 obtain ⟨y,rfl,hy⟩:=aIl q M hq hw
 exact ⟨y,rfl,hy⟩
end
section
variable {H:Type}{enc:TypeId×Value->H}{W:World}
theorem a3K{P:Program}{t:TypeId}{f0 f1 f2 f3 f4:Field}{fuel:Nat}{cs:List Value}{x:DataW H×List MemPlace}(ht:P.underlying t=some (.struct #[f0,f1,f2,f3,f4]))(h:DataW.trod enc P W 0 (λ_=>true) true fuel t cs=some x):
 ∃y0 y1 y2 y3 y4 n,DataW.trod enc P W 0 (λ_=>true) true n f0.type ((cs.drop f0.offset).take (P.cellsOf f0.type))=some y0∧DataW.trod enc P W 0 (λ_=>true) true n f1.type ((cs.drop f1.offset).take (P.cellsOf f1.type))=some y1 ∧
  DataW.trod enc P W 0 (λ_=>true) true n f2.type ((cs.drop f2.offset).take (P.cellsOf f2.type))=some y2∧DataW.trod enc P W 0 (λ_=>true) true n f3.type ((cs.drop f3.offset).take (P.cellsOf f3.type))=some y3 ∧
  DataW.trod enc P W 0 (λ_=>true) true n f4.type ((cs.drop f4.offset).take (P.cellsOf f4.type))=some y4:=by
 obtain ⟨xs,n,_,_,_,hlen,hf⟩:=DataW.trod_struct ht h
 match xs,hlen with
 |[y0,y1,y2,y3,y4],_=>exact ⟨y0,y1,y2,y3,y4,n,by simpa using hf 0 f0 rfl,by simpa using hf 1 f1 rfl,by simpa using hf 2 f2 rfl,by simpa using hf 3 f3 rfl,by simpa using hf 4 f4 rfl⟩
theorem bBC{fuel:Nat}{cs:List Value}{x:DataW H×List MemPlace}(h:DataW.trod enc Tryz.prog W 0 (λ_=>true) true fuel 22 cs=some x):
 ∃(A:Option Addr) (n c:Nat) (l:List Nat),cs=[.slice A n c]∧bH W W.heap.size 2 A n (nv .u8 l)∧n≤c:=by
 rcases Deep.open_slice Tryz.underlying22 h with ⟨rfl,_⟩|⟨a,len,cap,m,n,D,Pl,rfl,_,hl,_,hm,_,hx⟩
 ·exact ⟨none,0,0,[],rfl,bH.none_,aS _⟩
 ·simp only [if_true] at hm
  subst hm
  have hc2:Tryz.prog.cellsOf 114=2:=by kernel_rfl
  rw [hc2] at hx
  have each:∀j,j<len->∃l:List Nat,l.length=2∧∀i,i<2->W.cell? (a.add (j*2+i))=some (.int .u8 ((l.getD i 0:Nat):Int)):=λj hj=>by
   obtain ⟨cs',h1,h2⟩:=hx j (by omega)
   obtain ⟨_,hlen,hcell⟩:=World.cells?_some h1
   obtain ⟨l,rfl,hl2,_⟩:=aMz 256 xY Tryz.underlying114 Tryz.underlying5 (by kernel_rfl) hlen h2
   refine ⟨l,hl2,λi hi=>?_⟩
   have:=hcell i (by omega)
   rw [Deep.add_add] at this
   rw [this,mL (by omega)]
  obtain ⟨L,hL⟩:=Deep.choose_lt each
  refine ⟨some a,len,_,(List.range len).flatMap λj=>[(L j).getD 0 0,(L j).getD 1 0],rfl,?_,hl⟩
  have hlen2:∀(f:Nat->List Nat),(∀j,(f j).length=2)->∀k,((List.range k).flatMap f).length=k*2:=by
   intro f hf k
   induction k with
   |zero=>simp
   |succ k ih=>rw [List.range_succ,List.flatMap_append,eS,ih];simp [hf];omega
  have hget:∀k j i,j<k->i<2->((List.range k).flatMap λj=>[(L j).getD 0 0,(L j).getD 1 0])[j*2+i]?=some ((L j).getD i 0):=by
   intro k
   induction k with
   |zero=>intro j i hj;omega
   |succ k ih =>
    intro j i hj hi
    rw [List.range_succ,List.flatMap_append]
    by_cases e:j<k
    ·rw [mZ (by rw [hlen2 _ (λ_=>rfl)];omega)]
     exact ih j i e hi
    ·obtain rfl:j=k:=by omega
     rw [o3 (by rw [hlen2 _ (λ_=>rfl)];omega),hlen2 _ (λ_=>rfl)]
     rw [show j*2+i-j*2=i by omega]
     rcases i with _|_|i
     ·rfl
     ·rfl
     ·omega
  refine ⟨by rw [aZ,hlen2 _ (λ_=>rfl)],λh0=>⟨a,rfl,?_,λj u hu=>?_⟩⟩
  ·have h1:=(hL 0 h0).2 0 (by omega)
   have:=World.block_lt_of_cell? W (a.add (0*2+0)) h1
   rwa [D6] at this
  ·have hj:j<len*2:=by
    rcases Nat.lt_or_ge j (len*2) with h1|h1
    ·exact h1
    ·rw [fA (by rw [aZ,hlen2 _ (λ_=>rfl)];exact h1)] at hu;cases hu
   have e:j=j / 2*2+j%2:=by omega
   have h2:=(hL (j / 2) (by omega)).2 (j%2) (by omega)
   have h3:=hget len (j / 2) (j%2) (by omega) (by omega)
   rw [<-e] at h2 h3
   rw [h2,<-hu]
   unfold nv
   rw [jC,h3]
   rfl
theorem a9V{r0:Reach}{b0:Nat}{v:Value}{d:DataW H}{ps:List MemPlace}(hval:Value.okWide Tryz.prog W r0 b0 25 v)(hd:DataW.Trod enc Tryz.prog W 0 (λ_=>true) true 25 v d ps):
 ∃(bl ep ma:Nat) (A:Option Addr) (n c:Nat) (l:List Nat) (A2:Option Addr) (n2 c2:Nat) (l2:List Nat),v=.agg #[.int .u8 (bl:Int),.slice A n c,.slice A2 n2 c2,.int .u8 (ep:Int),.int .u8 (ma:Int)]∧bl<256∧ep<256∧ma<256 ∧
  bH W W.heap.size 2 A n (nv .u8 l)∧n≤c∧bH W W.heap.size 1 A2 n2 (nv .u8 l2)∧n2≤c2:=by
 obtain ⟨cs,rfl,hsz⟩:=okWide_struct Tryz.underlying25 hval
 have hsz2:cs.size=5:=hsz.trans (by kernel_rfl)
 obtain ⟨fuel,hf⟩:=hd
 obtain ⟨y0,y1,y2,y3,y4,n,h0,h1,h2,h3,h4⟩:=a3K Tryz.underlying25 hf
 obtain ⟨cs⟩:=cs
 have hl5:cs.length=5:=hsz2
 match cs,hl5 with
 |[a,b,e,f,g],_ =>
  have h0':DataW.trod enc Tryz.prog W 0 (λ_=>true) true n 5 [a]=some y0:=h0
  have h1':DataW.trod enc Tryz.prog W 0 (λ_=>true) true n 22 [b]=some y1:=h1
  have h2':DataW.trod enc Tryz.prog W 0 (λ_=>true) true n 23 [e]=some y2:=h2
  have h3':DataW.trod enc Tryz.prog W 0 (λ_=>true) true n 5 [f]=some y3:=h3
  have h4':DataW.trod enc Tryz.prog W 0 (λ_=>true) true n 5 [g]=some y4:=h4
  obtain ⟨bl,e0,hb⟩:=P5 256 xY Tryz.underlying5 h0'
  obtain ⟨A,n1,c,l,e1,hr1,hc1⟩:=bBC h1'
  obtain ⟨A2,n2,c2,l2,e2,hr2,hc2,_⟩:=aYD 256 xY Tryz.underlying23 Tryz.underlying5 (by kernel_rfl) h2'
  obtain ⟨ep,e3,he⟩:=P5 256 xY Tryz.underlying5 h3'
  obtain ⟨ma,e4,hm⟩:=P5 256 xY Tryz.underlying5 h4'
  simp only [List.cons.injEq,and_true] at e0 e1 e2 e3 e4
  subst e0 e1 e2 e3 e4
  exact ⟨bl,ep,ma,A,n1,c,l,A2,n2,c2,l2,rfl,hb,he,hm,hr1,hc1,hr2,hc2⟩
end
theorem w32(z:Int)(h:(Lit.int .u32 z).wf=true):0≤z∧z<((4294967296:Nat):Int):=by
 have:0≤z∧z≤4294967295:=by simpa [Lit.wf,IntKind.min,IntKind.max,IntKind.signed,IntKind.bits] using h
 omega
theorem w64(z:Int)(h:(Lit.int .u64 z).wf=true):0≤z∧z<((18446744073709551616:Nat):Int):=by
 have:0≤z∧z≤18446744073709551615:=by simpa [Lit.wf,IntKind.min,IntKind.max,IntKind.signed,IntKind.bits] using h
 omega
section
variable {H:Type}{enc:TypeId×Value->H}{W:World}
theorem a2s{r0:Reach}{b0:Nat}{v:Value}{d:DataW H}{ps:List MemPlace}(hval:Value.okWide Tryz.prog W r0 b0 83 v)(hd:DataW.Trod enc Tryz.prog W 0 (λ_=>true) true 83 v d ps):
 ∃(b:List Nat) (s c:Nat),v=.agg (([.int .u32 (s:Int),.int .u64 (c:Int)]:List Value)++nv .u8 b).toArray∧b.length=32∧Sh.Byt b∧s<4294967296∧c<18446744073709551616:=by
 obtain ⟨cs,rfl,hsz⟩:=okWide_struct Tryz.underlying83 hval
 have hsz2:cs.size=34:=hsz.trans (by kernel_rfl)
 obtain ⟨fuel,hf⟩:=hd
 obtain ⟨y0,y1,n,_,_,h0,h1⟩:=trod_struct2 Tryz.underlying83 hf
 have e0:((Value.agg cs).cells.toList.drop 0).take 2=cs.toList.take 2:=by simp [Value.cells]
 have e1:((Value.agg cs).cells.toList.drop 2).take 32=cs.toList.drop 2:=by
  rw [jB (by simp [Value.cells,hsz2])]
  rfl
 have h0':DataW.trod enc Tryz.prog W 0 (λ_=>true) true n 59 (cs.toList.take 2)=some y0:=by rw [<-e0];exact h0
 have h1':DataW.trod enc Tryz.prog W 0 (λ_=>true) true n 81 (cs.toList.drop 2)=some y1:=by rw [<-e1];exact h1
 obtain ⟨b,hk,hl,hb⟩:=aMz (n:=32) 256 xY Tryz.underlying81 Tryz.underlying5 (by kernel_rfl) (by simp;omega) h1'
 have hn:∃s c:Nat,cs.toList.take 2=[.int .u32 (s:Int),.int .u64 (c:Int)]∧s<4294967296∧c<18446744073709551616:=by
  have hl2:(cs.toList.take 2).length=2:=by simp;omega
  revert h0' hl2
  generalize cs.toList.take 2=l
  intro h0' hl2
  match l,hl2 with
  |[p,q],_ =>
   obtain ⟨z0,z1,m,_,_,g0,g1⟩:=trod_struct2 Tryz.underlying59 h0'
   have g0':DataW.trod enc Tryz.prog W 0 (λ_=>true) true m 57 [p]=some z0:=g0
   have g1':DataW.trod enc Tryz.prog W 0 (λ_=>true) true m 33 [q]=some z1:=g1
   obtain ⟨s,es,hs⟩:=P5 4294967296 w32 Tryz.underlying57 g0'
   obtain ⟨c,ec,hc⟩:=P5 18446744073709551616 w64 Tryz.underlying33 g1'
   simp only [List.cons.injEq,and_true] at es ec
   exact ⟨s,c,by rw [es,ec],hs,hc⟩
 obtain ⟨s,c,e,hs,hc⟩:=hn
 refine ⟨b,s,c,?_,hl,hb,hs,hc⟩
 congr 1
 apply Array.toList_inj.1
 rw [<-List.take_append_drop 2 cs.toList,hk,e]
end
end Go.Proofs.YtjboelhcieepkaaGreatDoor
namespace Go.Proofs.YtjboelhcieepkaaGreatDoor
open Go.RowKit
section
variable {P:Program}{ops:Array Oper}{Q:Exit->Act->World->Prop}{S:World->Prop}{fuel:Nat}{listed:Array Bool}{a:Act}{w:World}
theorem aJd{op:Oper}(hw:Region.wanted op (yielded ops a.tmps)=true)(ty:TypeId)(x:Operand)(ho:op.op=.load ty x)
 (g:Nat) (hx:a.eval x=.pointer (some ⟨g,0,none⟩)) (t:TypeId) (cs:Array Value) (d:TypeDesc) (hS:∀w,S w->aC w g t cs)
 (hu:P.underlying ty=some d) (hd:(match d with | .struct _ | .array _ _=>true|_=>false)=true) (hi:(P.info? ty).map (·.size)=some cs.size):YieldsIf P ops S op (.agg cs) a :=
 .inl ⟨hw,λw hw'=>by
  unfold execOp
  simp only [ho,hx,Instr.loadAt,Instr.sureAddr,Sem.run_bind,Sem.run_pure,Result.andThen_ok,run_loadVar_row w g t ty cs (0,0) d (hS w hw') hu hd hi]⟩
end
section
variable {P:Program}{l:List Oper}{Q:Exit->Act->World->Prop}{S:World->Prop}{fuel:Nat}{listed:Array Bool}{ts:List Value}{df:List Deferred}{w:World}{md:Region.Mode}
theorem zQ{o:Oper}{r:List Oper}{i:Nat}(h:l.drop i=o::r):l.toArray[i]?=some o:=by
 have e:(l.drop i)[0]?=some o:=by rw [h];rfl
 rw [List.getElem?_drop] at e
 simpa using e
theorem iX(fuel i d:Nat)(v:Value){o:Oper}{r:List Oper}(hi:l.drop i=o::r)(hdst:o.dst=some d)(hs:Region.noSelect l.toArray=true)(hf:Region.free md l.toArray listed i=true)
 (hr:(Region.ready md l.toArray listed).contains i=true) (hQ:∀c a w,Q (.panic c) (a.put o.dst v) w->Q (.panic c) a w)
 (hy:YieldsIf P l.toArray S o v ⟨ts.toArray,df⟩) (hS:S w)
 (h:wpAnyH P md l.toArray Q S fuel (listed.setIfInBounds i true) ⟨(ts.set d v).toArray,df⟩ w):wpAnyH P md l.toArray Q S (fuel+1) listed ⟨ts.toArray,df⟩ w:=by
 refine wpAnyH_take (zQ hi) hs hf hr hQ hy hS ?_
 rw [hdst]
 simpa [Act.put] using h
theorem aKD(fuel i d:Nat){o:Oper}{r:List Oper}(hi:l.drop i=o::r)(hdst:o.dst=some d)(hw:Region.wanted o (yielded l.toArray ts.toArray)=true)(hr:Region.ready md l.toArray listed=[i])
 (h:∀K:Act->World->Prop,Shut (∀v w,S w->(S w->wpAnyH P md l.toArray Q S fuel (listed.setIfInBounds i true) ⟨(ts.set d v).toArray,df⟩ w)->K (Act.put ⟨ts.toArray,df⟩ o.dst v) w)->Oper.wp P o ⟨ts.toArray,df⟩ w K Q) :
 wpAnyH P md l.toArray Q S (fuel+1) listed ⟨ts.toArray,df⟩ w:=by
 refine wpAnyH_ready hr (by simp) (AllReadyH.cons (zQ hi) (λK hK=>?_) AllReadyH.nil)
 rw [if_pos hw]
 refine h K λv w' hS hn=>?_
 refine hK.out _ _ hS λhS=>?_
 have:=hn hS
 rw [hdst]
 simpa [Act.put] using this
theorem aSL(fuel i:Nat){o:Oper}{r:List Oper}(hi:l.drop i=o::r)(hdst:o.dst=none)(hw:Region.wanted o (yielded l.toArray ts.toArray)=true)(hr:Region.ready md l.toArray listed=[i])
 (ty:TypeId) (x y:Operand) (ho:o.op=.store ty x y) (g:Nat) (hx:Act.eval ⟨ts.toArray,df⟩ x=.pointer (some ⟨g,0,none⟩)) (c:Array Value) (hy:Act.eval ⟨ts.toArray,df⟩ y=.agg c) (t:TypeId) (old:Array Value) (hb:aC w g t old) (hs:old.size=c.size)
 (hin:(P.info? ty).map (·.size)=some c.size) (h1:∀v∈c.toList,v.oneCell'=true) (hS:S (w.setRow g c))
 (h:S (w.setRow g c)->wpAnyH P md l.toArray Q S fuel (listed.setIfInBounds i true) ⟨ts.toArray,df⟩ (w.setRow g c)) :
 wpAnyH P md l.toArray Q S (fuel+1) listed ⟨ts.toArray,df⟩ w:=by
 refine wpAnyH_ready hr (by simp) (AllReadyH.cons (zQ hi) (λK hK=>?_) AllReadyH.nil)
 rw [if_pos hw]
 unfold Oper.wp execOp
 simp only [ho,hx,hy,Instr.storeAt,Instr.sureAddr,Sem.run_bind,Sem.run_pure,Result.andThen_ok,aER hb c hs hin h1]
 refine hK.out _ _ hS λhS=>?_
 rw [hdst]
 exact h hS
theorem a6G{o:Oper}{rest:List Oper}{ops:Array Oper}(d:Nat)(v:Value)(hdst:o.dst=some d)(hw:Region.wanted o (yielded ops ts.toArray)=true)
 (hrun:(execOp (Act.eval ⟨ts.toArray,df⟩) o).run P w=.ok (.value v) w)
 (h:wpList P ops Q rest ⟨(ts.set d v).toArray,df⟩ w):wpList P ops Q (o::rest) ⟨ts.toArray,df⟩ w:=by
 refine wpList_step λK hK=>?_
 rw [if_pos hw]
 unfold Oper.wp
 rw [hrun]
 refine hK _ _ ?_
 rw [hdst]
 simpa [Act.put] using h
theorem bDJ{o:Oper}{rest:List Oper}{ops:Array Oper}(d:Nat)(hdst:o.dst=some d)(hw:Region.wanted o (yielded ops ts.toArray)=true)
 (h:∀K:Act->World->Prop,Shut (∀v w,wpList P ops Q rest ⟨(ts.set d v).toArray,df⟩ w->K (Act.put ⟨ts.toArray,df⟩ o.dst v) w)->Oper.wp P o ⟨ts.toArray,df⟩ w K Q) :
 wpList P ops Q (o::rest) ⟨ts.toArray,df⟩ w:=by
 refine wpList_step λK hK=>?_
 rw [if_pos hw]
 refine h K λv w' hn=>hK _ _ ?_
 rw [hdst]
 simpa [Act.put] using hn
theorem N4{op:Oper}{a:Act}{w:World}(ty:TypeId)(x:Operand)(ho:op.op=.load ty x)(g:Nat)(hx:a.eval x=.pointer (some ⟨g,0,none⟩))(t:TypeId)(cs:Array Value)(d:TypeDesc)(hg:aC w g t cs)
 (hu:P.underlying ty=some d) (hd:(match d with | .struct _ | .array _ _=>true|_=>false)=true) (hi:(P.info? ty).map (·.size)=some cs.size):(execOp a.eval op).run P w=.ok (.value (.agg cs)) w:=by
 unfold execOp
 simp only [ho,hx,Instr.loadAt,Instr.sureAddr,Sem.run_bind,Sem.run_pure,Result.andThen_ok,run_loadVar_row w g t ty cs (0,0) d hg hu hd hi]
theorem aCO{op:Oper}{a:Act}{w:World}(t:TypeId)(pl:List (Nat×Operand))(ho:op.op=.build t pl.toArray)(cs:Array Value)(hb:P.built t (pl.map λx=>(x.1,a.eval x.2))=some cs):
 (execOp a.eval op).run P w=.ok (.value (.agg cs)) w:=by
 have hb2:P.built t (pl.toArray.map λ(i,x)=>(i,a.eval x)).toList=some cs:=by
  rw [<-hb];simp
 unfold execOp
 simp only [ho,Sem.run_bind,run_build w t _ cs hb2,Result.andThen_ok,Sem.run_pure]
theorem a3j{o:Oper}{rest:List Oper}{ops:Array Oper}(d:Nat)(v:Value)(w2:World)(hdst:o.dst=some d)(hw:Region.wanted o (yielded ops ts.toArray)=true)
 (hrun:(execOp (Act.eval ⟨ts.toArray,df⟩) o).run P w=.ok (.value v) w2)
 (h:wpList P ops Q rest ⟨(ts.set d v).toArray,df⟩ w2):wpList P ops Q (o::rest) ⟨ts.toArray,df⟩ w:=by
 refine wpList_step λK hK=>?_
 rw [if_pos hw]
 unfold Oper.wp
 rw [hrun]
 refine hK _ _ ?_
 rw [hdst]
 simpa [Act.put] using h
theorem a0T{o:Oper}{rest:List Oper}{ops:Array Oper}(w2:World)(hdst:o.dst=none)(hw:Region.wanted o (yielded ops ts.toArray)=true)
 (hrun:(execOp (Act.eval ⟨ts.toArray,df⟩) o).run P w=.ok .skip w2)
 (h:wpList P ops Q rest ⟨ts.toArray,df⟩ w2):wpList P ops Q (o::rest) ⟨ts.toArray,df⟩ w:=by
 refine wpList_step λK hK=>?_
 rw [if_pos hw]
 unfold Oper.wp
 rw [hrun]
 refine hK _ _ ?_
 rw [hdst]
 exact h
theorem uU{o:Oper}{a:Act}{w:World}{K:Act->World->Prop}{Q:Exit->Act->World->Prop}(f:FuncId)(vals:Array Value){R:Ending->World->Prop}(hrun:(execOp a.eval o).run P w=.ok (.enter f vals) w)(hc:Calls P f vals w R)
 (h:∀e w',R e w'->∃v,e=.returned v∧K (a.put o.dst v) w'):Oper.wp P o a w K Q:=by
 unfold Oper.wp
 rw [hrun]
 exact hc.mono λe w' hR=>by
  obtain ⟨v,rfl,hk⟩:=h e w' hR
  exact hk
theorem a41(fuel i d:Nat){o:Oper}{r:List Oper}{rs:List Nat}(hi:l.drop i=o::r)(hdst:o.dst=some d)(hw:Region.wanted o (yielded l.toArray ts.toArray)=true)
 (h:∀K:Act->World->Prop,Shut (∀v w,S w->(S w->wpAnyH P md l.toArray Q S fuel (listed.setIfInBounds i true) ⟨(ts.set d v).toArray,df⟩ w)->K (Act.put ⟨ts.toArray,df⟩ o.dst v) w)->Oper.wp P o ⟨ts.toArray,df⟩ w K Q)
 (hs:AllReadyH P md l.toArray Q S fuel listed ⟨ts.toArray,df⟩ w rs):AllReadyH P md l.toArray Q S fuel listed ⟨ts.toArray,df⟩ w (i::rs):=by
 refine AllReadyH.cons (zQ hi) (λK hK=>?_) hs
 rw [if_pos hw]
 refine h K λv w' hS hn=>?_
 refine hK.out _ _ hS λhS=>?_
 have:=hn hS
 rw [hdst]
 simpa [Act.put] using this
theorem aP8(fuel i d:Nat)(v:Value)(w2:World){o:Oper}{r:List Oper}{rs:List Nat}(hi:l.drop i=o::r)(hdst:o.dst=some d)(hw:Region.wanted o (yielded l.toArray ts.toArray)=true)
 (hrun:(execOp (Act.eval ⟨ts.toArray,df⟩) o).run P w=.ok (.value v) w2) (hS:S w2)
 (h:S w2->wpAnyH P md l.toArray Q S fuel (listed.setIfInBounds i true) ⟨(ts.set d v).toArray,df⟩ w2)
 (hs:AllReadyH P md l.toArray Q S fuel listed ⟨ts.toArray,df⟩ w rs):AllReadyH P md l.toArray Q S fuel listed ⟨ts.toArray,df⟩ w (i::rs):=by
 refine AllReadyH.cons (zQ hi) (λK hK=>?_) hs
 rw [if_pos hw]
 unfold Oper.wp
 rw [hrun]
 refine hK.out _ _ hS λhS=>?_
 rw [hdst]
 simpa [Act.put] using h hS
theorem kP{op:Oper}{a:Act}{w w2:World}(t:TypeId)(n:Nat)(pl:List (Nat×Operand))(ho:op.op=.buildSlice t n pl.toArray)(v:Value)(hb:(Instr.buildSlice t n (pl.map λx=>(x.1,a.eval x.2)).toArray).run P w=.ok v w2):
 (execOp a.eval op).run P w=.ok (.value v) w2:=by
 have hb2:(Instr.buildSlice t n (pl.toArray.map λ(i,x)=>(i,a.eval x))).run P w=.ok v w2:=by
  rw [<-hb];simp
 unfold execOp
 simp only [ho,Sem.run_bind,hb2,Result.andThen_ok,Sem.run_pure]
end
theorem aXA{P:Program}{fn:Func}{p u:Tmp}{ty:TypeId}(h:fn.results=#[.cell p ty,.tmp u])(tmps:Array Value)(w:World)(g:Nat)(t:TypeId)(cs:Array Value)(d:TypeDesc)(v:Value)
 (hp:tmps.getD p undef=.pointer (some ⟨g,0,none⟩)) (hg:aC w g t cs)
 (hu:P.underlying ty=some d) (hd:(match d with | .struct _ | .array _ _=>true|_=>false)=true) (hi:(P.info? ty).map (·.size)=some cs.size) (hv:tmps.getD u undef=v) :
 (results fn tmps).run P w=.ok (.tuple #[.agg cs,v]) w:=by
 rw [results_cell_tmp h,hp,hv]
 simp [asAddr,run_loadVar_row w g t ty cs (0,0) d hg hu hd hi]
theorem aC.newAt{w:World}{g:Nat}{t:TypeId}{cs:Array Value}(h:w.heap.size=g):aC (w.alloc (.cells cs t)) g t cs:=by
 subst h;exact aC.new _ _ _
theorem aC.readsAll{w:World}{g B n:Nat}{t:TypeId}{k:IntKind}{l:List Nat}(h:aC w g t (va k l))(hg:g<B)(hn:l.length=n):bH w B 1 (some ⟨g,0,none⟩) n (nv k l):=by
 subst hn
 have:=h.reads hg 0 l.length (by omega)
 simpa using this
def kB(l:List Nat):ByteArray:=(l.map λx:Nat=>(x:Int)).foldl (λr n=>r.push (UInt8.ofNat n.toNat)) ByteArray.empty
theorem aC.part{w:World}{g:Nat}{t:TypeId}{k:IntKind}{l:List Nat}(h:aC w g t (va k l))(o n:Nat):∀j v,(nv k ((l.drop o).take n))[j]?=some v->w.cell? ⟨g,o+j,none⟩=some v:=λj v hv=>by
 rw [<-tW,<-rT,List.getElem?_take] at hv
 split at hv
 ·rw [List.getElem?_drop] at hv
  rw [h.cell];simpa [va] using hv
 ·cases hv
