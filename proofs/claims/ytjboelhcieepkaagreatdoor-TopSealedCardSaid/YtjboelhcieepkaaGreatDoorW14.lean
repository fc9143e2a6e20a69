/- A part of the proof of TopSealed. -/
import Derived.Test.YtjboelhcieepkaaGreatDoorW13
noncomputable section
set_option maxRecDepth 16384
set_option maxHeartbeats 4000000
namespace Go.Proofs.YtjboelhcieepkaaGreatDoor
open Go.RowKit
section
variable {E:bX}{r:List aF}{hp:Tr}{nx:Nat}{w w':World}
theorem J9(hm:aG E r hp nx w)(hE:E.X=Xt)(hb:Below w.heap.size w w'){g' t N T:Nat}{l:List (Option aQ)}(h1:w.heap.size≤g')(h2:g'<w'.heap.size)(h:uJ t N w' g' (λk=>w.heap.size≤k∧k<w'.heap.size) l):
 aG E (r++[⟨g',0,0,none,λk=>w.heap.size≤k∧k<w'.heap.size⟩]) (hp.put nx ⟨T,.q (.gh t N l),8⟩) (nx+1) w':=by
 refine hm.add hb _ _ (λk hk=>?_) ⟨[],.q (.gh t N l),.inr (.inr ⟨by show 2≤8;omega,h2,λj v hv=>by simp at hv,λh5=>absurd h5 (by show ¬ 8=5;omega),λh6=>absurd h6 (by show ¬ 8=6;omega),λ_=>bI hm.below.size h1,λ_=>⟨t,N,l,rfl,λk hk=>⟨hk.2,bI hm.below.size hk.1⟩,by rw [hE];exact h⟩⟩)⟩ (.inr (by show 5≤8;omega))
 rcases hk with rfl|⟨_,hk⟩
 ·exact h1
 ·exact hk.1
theorem sZ(hm:aG E r hp nx w)(hE:E.X=Xt){n t N T:Nat}{l:List (Option aQ)}{L:aF}(hn:hp.get n=some ⟨T,.q (.gh t N l),8⟩)(hL:r[n]?=some L):uJ t N w L.g L.cv l∧L.g<w.heap.size∧∀k,L.cv k->k<w.heap.size:=by
 obtain ⟨L',h1,vs,_,h2⟩:=hm.blk n _ hn
 rw [hL] at h1
 cases h1
 rcases h2 with ⟨h,_⟩|⟨h,_⟩|⟨_,h3,_,h4⟩
 ·cases h
 ·cases h
 ·obtain ⟨t',N',l',e,h5,h6⟩:=h4.2.2.2 rfl
  cases e
  exact ⟨by rw [hE] at h6;exact h6,h3,λk hk=>(h5 k hk).1⟩
end
def C8:List (Option aQ)->Nat->Nat->Option aQ->List (Option aQ):=λl=>List.rec (motive:=λ_=>Nat->Nat->Option aQ->List (Option aQ)) (λ_ _ _=>[]) (λy _ ih j s x=>Bool.rec y x (Nat.beq j s)::ih (Nat.succ j) s x) l
theorem aAE:∀(l:List (Option aQ)) (j s:Nat) (x:Option aQ),C8 l j (j+s) x=l.set s x∧∀s',s'<j->C8 l j s' x=l
 |[],j,s,x=>⟨rfl,λ_ _=>rfl⟩
 |y::t,j,s,x=>by
  have e:∀s',C8 (y::t) j s' x=(Bool.rec y x (Nat.beq j s'):Option aQ)::C8 t (j+1) s' x:=λ_=>rfl
  refine ⟨?_,λs' hs=>?_⟩
  ·rw [e,bE]
   cases s with
   |zero=>rw [Nat.add_zero,(aAE t (j+1) 0 x).2 j (by omega)];simp
   |succ s =>
    have:=(aAE t (j+1) s x).1
    rw [show j+(s+1)=j+1+s by omega,this]
    simp [show ¬ j=j+1+s by omega]
  ·rw [e,bE,(aAE t (j+1) 0 x).2 s' (by omega)]
   simp [show ¬ j=s' by omega]
theorem a1H(l:List (Option aQ))(s:Nat)(x:Option aQ):C8 l 0 s x=l.set s x:=by
 have:=(aAE l 0 s x).1
 rwa [Nat.zero_add] at this
def pV(c:Rp SV):Option (Option aQ):=match c with
 | .node _ _ (.one (.v (.bool true))) (.one (.b x))=>some (some x)
 | .node _ _ (.one (.v (.bool false))) (.one (.v (.string .empty)))=>some none
 |_=>none
theorem aMc{r:List aF}{c:Rp SV}{x:Option aQ}{vs:List Value}(h:pV c=some x)(d:aD r c vs):vs=vV x:=by
 unfold pV at h
 split at h
 ·cases h
  cases d with|node ha hb _ _=>cases ha with|one h1 _=>cases h1;cases hb with|one h2 _=>cases h2;rfl
 ·cases h
  cases d with|node ha hb _ _=>cases ha with|one h1 _=>cases h1;cases hb with|one h2 _=>cases h2;rfl
 ·cases h
def uV:Option aQ->Rp SV
 |some x=>.node 1 2 (.one (.v (.bool true))) (.one (.b x))
 |none=>.node 1 2 (.one (.v (.bool false))) (.one (.v (.string .empty)))
theorem aT0(r:List aF)(x:Option aQ):aD r (uV x) (vV x):=by
 cases x with
 |some x=>exact .node (us:=[.bool true]) (.one (.v _) rfl) (.one (.b x) rfl) rfl rfl
 |none=>exact .node (us:=[.bool false]) (.one (.v _) rfl) (.one (.v _) rfl) rfl rfl
def aLM(l:List (Option aQ)):Nat:=List.rec (motive:=λ_=>Nat) 0 (λ_ _ ih=>Nat.succ ih) l
theorem aNJ:∀l:List (Option aQ),aLM l=l.length
 |[]=>rfl
 |_::t=>congrArg Nat.succ (aNJ t)
def aYI(l:List (Option aQ)):Nat->Option (Option aQ):=List.rec (motive:=λ_=>Nat->Option (Option aQ)) (λ_=>none) (λy _ ih n=>Nat.rec (motive:=λ_=>Option (Option aQ)) (some y) (λm _=>ih m) n) l
def qQ(n:Nat):List (Option aQ):=Nat.rec (motive:=λ_=>List (Option aQ)) [] (λ_ ih=>none::ih) n
theorem C9:∀n,qQ n=List.replicate n none
 |0=>rfl
 |n+1=>by
  have e:qQ (n+1)=none::qQ n:=rfl
  rw [e,C9 n];rfl
def aKk:bV:=λargs hp nx=>match args with
 |[.v (.int .i64 (.ofNat m))]=>(match Nat.blt 0 m&&Nat.ble m 1000 with
  |true=>some (.a (.one (.gs nx m)),⟨⟨.e,0⟩,hp.put nx ⟨0,.q (.gh 0 0 (qQ m)),8⟩,nx+1⟩)
  |false=>none)
 |_=>none
def bEy:bV:=λargs hp nx=>match args with
 |[.a (.one (.gs n m)),.v (.int .i64 (.ofNat k))]=>(match hp.get n with
  |some ⟨_,.q (.gh 0 N l),8⟩=>(match Nat.ble m 1000&&(Nat.ble N 1000&&Nat.blt k m),aYI l k with
   |true,some x=>some (.a (uV x),⟨⟨.e,0⟩,hp,nx⟩)
   |_,_=>none)
  |_=>none)
 |_=>none
def aMy:bV:=λargs hp nx=>match args with
 |[.a (.one (.gs n m)),.v (.int .i64 (.ofNat s)),.a c]=>(match hp.get n,pV c with
  |some ⟨_,.q (.gh 0 N l),8⟩,some x=>(match Nat.blt 0 m&&Nat.ble m 1000&&(Nat.ble N 1000&&Nat.ble s 100000)&&Nat.beq (aLM l) m with
   |true=>some (.a (.one (.gs nx m)),⟨⟨.e,0⟩,hp.put nx ⟨0,.q (.gh 0 (Nat.succ N) (C8 l 0 s x)),8⟩,nx+1⟩)
   |false=>none)
  |_,_=>none)
 |_=>none
theorem bEB:bN Xt 29 aKk:=by
 intro args hp nx res st hl E r vals w hE ha hm
 unfold aKk at hl
 split at hl
 ·rename_i m
  split at hl
  ·rename_i hc
   cases hl
   simp only [bJ,bO,cY,bR] at hc
   cases ha with|cons d t =>
    cases t
    cases d
    refine ⟨λw'=>bB (by kernel_rfl) _ w',(aKp m hc.2 hc.1 w).mono λe w' ⟨g',c',h1,h2,h3,h4,h5,h6⟩=>⟨_,_,h1,?_,J9 hm hE h6 h3 h4 (t:=0) (by rw [C9];exact h5)⟩⟩
    exact .a (.one (.gs (L:=⟨g',0,0,none,λk=>w.heap.size≤k∧k<w'.heap.size⟩) (by rw [<-hm.len];simp) h2) rfl)
  ·cases hl
 ·cases hl
theorem bEx:bN Xt 33 aMy:=by
 intro args hp nx res st hl E r vals w hE ha hm
 unfold aMy at hl
 split at hl
 ·rename_i n m s c
  split at hl
  ·rename_i T N l x hn hx
   split at hl
   ·rename_i hc
    cases hl
    simp only [bJ,bO,cY,bR,bE,aNJ] at hc
    cases ha with|cons d t=>cases t with|cons d2 t=>cases t with|cons d3 t=>cases t;cases d2;cases d with|a d=>cases d with|one d _=>cases d with|gs hL hlc =>
     cases d3 with|a d3 =>
      obtain rfl:=aMc hx d3
      obtain ⟨h1,h2,h3⟩:=sZ hm hE hn hL
      refine ⟨λw'=>bB (by kernel_rfl) _ w',(aMj N _ m _ s _ l x hc.2 hc.1.1.2 hc.1.1.1 hc.1.2.1 hc.1.2.2 w h2 h3 h1).mono λe w' ⟨g',c',h4,h5,h6,h7,h8,h9⟩=>⟨_,_,h4,?_,J9 hm hE h9 h6 h7 (t:=0) (by rw [a1H];exact h8)⟩⟩
      exact .a (.one (.gs (L:=⟨g',0,0,none,λk=>w.heap.size≤k∧k<w'.heap.size⟩) (by rw [<-hm.len];simp) h5) rfl)
   ·cases hl
  ·cases hl
 ·cases hl
def aGn:bV:=λargs hp nx=>match args with
 |[.v (.int .i64 (.ofNat m))]=>(match Nat.blt 0 m&&Nat.ble m 1000 with
  |true=>some (.a (.one (.gs nx m)),⟨⟨.e,0⟩,hp.put nx ⟨0,.q (.gh (m+2) 0 (qQ m)),8⟩,nx+1⟩)
  |false=>none)
 |_=>none
def aFv:bV:=λargs hp nx=>match args with
 |[.a (.one (.gs n m)),.v (.int .i64 (.ofNat s)),.a c]=>(match hp.get n,pV c with
  |some ⟨_,.q (.gh t N l),8⟩,some x=>(match Nat.blt 0 m&&Nat.ble m 1000&&(Nat.ble N 1000&&Nat.ble s 100000)&&Nat.beq t (m+2) with
   |true=>some (.a (.one (.gs nx m)),⟨⟨.e,0⟩,hp.put nx ⟨0,.q (.gh (m+2) (Nat.succ N) (l.set s x)),8⟩,nx+1⟩)
   |false=>none)
  |_,_=>none)
 |_=>none
theorem aYQ:bN Xt 29 aGn:=by
 intro args hp nx res st hl E r vals w hE ha hm
 unfold aGn at hl
 split at hl
 ·rename_i m
  split at hl
  ·rename_i hc
   cases hl
   simp only [bJ,bO,cY,bR] at hc
   cases ha with|cons d t =>
    cases t
    cases d
    refine ⟨λw'=>bB (by kernel_rfl) _ w',(aKp m hc.2 hc.1 w).mono λe w' ⟨g',c',h1,h2,h3,h4,h5,h6⟩=>⟨_,_,h1,?_,J9 hm hE h6 h3 h4 (t:=m+2) (by rw [C9];exact ⟨h5,lR⟩)⟩⟩
    exact .a (.one (.gs (L:=⟨g',0,0,none,λk=>w.heap.size≤k∧k<w'.heap.size⟩) (by rw [<-hm.len];simp) h2) rfl)
  ·cases hl
 ·cases hl
theorem bBh:bN Xt 33 aFv:=by
 intro args hp nx res st hl E r vals w hE ha hm
 unfold aFv at hl
 split at hl
 ·rename_i n m s c
  split at hl
  ·rename_i T t N l x hn hx
   split at hl
   ·rename_i hc
    cases hl
    simp only [bJ,bO,cY,bR,bE] at hc
    obtain ⟨hc,rfl⟩:=hc
    cases ha with|cons d t=>cases t with|cons d2 t=>cases t with|cons d3 t=>cases t;cases d2;cases d with|a d=>cases d with|one d _=>cases d with|gs hL hlc =>
     cases d3 with|a d3 =>
      obtain rfl:=aMc hx d3
      obtain ⟨⟨h1,hlen⟩,h2,h3⟩:=sZ hm hE hn hL
      refine ⟨λw'=>bB (by kernel_rfl) _ w',(aMj N _ m _ s _ l x hlen hc.1.2 hc.1.1 hc.2.1 hc.2.2 w h2 h3 h1).mono λe w' ⟨g',c',h4,h5,h6,h7,h8,h9⟩=>⟨_,_,h4,?_,J9 hm hE h9 h6 h7 (t:=m+2) ⟨h8,by rw [List.length_set];exact hlen⟩⟩⟩
      exact .a (.one (.gs (L:=⟨g',0,0,none,λk=>w.heap.size≤k∧k<w'.heap.size⟩) (by rw [<-hm.len];simp) h5) rfl)
   ·cases hl
  ·cases hl
 ·cases hl
end Go.Proofs.YtjboelhcieepkaaGreatDoor
namespace Go.Proofs.YtjboelhcieepkaaGreatDoor
open Go.RowKit Sh
theorem aPZ(x n:Nat)(hx:x<4294967296):
 bits BinOp.or IntKind.u32 ((x:Int) / 2 ^ n) ((x:Int)*2 ^ (32-n)%4294967296)=((eM x n:Nat):Int):=by
 have e1:((x:Int)*2 ^ (32-n)%4294967296)=((x*2 ^ (32-n)%4294967296:Nat):Int):=by
  rw [Int.natCast_emod,Int.natCast_mul,Int.natCast_pow];rfl
 have e2:=aDO x n
 rw [e1,e2,u32_or_nat _ _ (Nat.lt_of_le_of_lt (Nat.div_le_self _ _) hx) (Nat.mod_lt _ (by omega))]
 unfold eM
 rw [Nat.shiftLeft_eq,Nat.shiftRight_eq_div_pow]
theorem a21(x n:Nat)(hx:x<4294967296)(h1:1≤n)(hn:n≤31)(w:World):
 Calls Tryz.prog 275 #[.int .u32 (x:Int),.int .i64 (n:Int)] w λe w'=>e=.returned (.int .u32 (eM x n:Nat))∧∃j,w'=w.drewN j:=by
 have hv:=aPZ x n hx
 have h32:(32-(n:Int)).toNat=32-n:=by omega
 have hn1:0≤(n:Int):=by omega
 have hn2:(n:Int)≤31:=by omega
 have hn3:0≤32-(n:Int):=by omega
 have w3:IntKind.i64.wrap (32-(n:Int))=32-(n:Int):=IntWalk.i64_in _ (by omega)
 go_enter Tryz.func275,Tryz.ntmps275
 go_wp2
 go_quiet (fail)
 go_wp2
 go_ret
 exact ⟨rfl,_,rfl⟩
theorem uP(x:Nat)(n:Int)(m:Nat)(hm:n=(m:Int))(hx:x<4294967296)(h1:1≤m)(hn:m≤31)(w:World):
 Calls Tryz.prog 275 #[.int .u32 (x:Int),.int .i64 n] w λe w'=>e=.returned (.int .u32 (eM x m:Nat))∧∃j,w'=w.drewN j:=by
 subst hm;exact a21 x m hx h1 hn w
theorem aYu{P:Program}{fn:Func}{p p2:Tmp}{ty ty2:TypeId}(h:fn.results=#[.cell p ty,.cell p2 ty2])(tmps:Array Value)(w:World)(g g2:Nat)(t t2:TypeId)(cs cs2:Array Value)(d d2:TypeDesc)
 (hp:tmps.getD p undef=.pointer (some ⟨g,0,none⟩)) (hp2:tmps.getD p2 undef=.pointer (some ⟨g2,0,none⟩)) (hg:aC w g t cs) (hg2:aC w g2 t2 cs2)
 (hu:P.underlying ty=some d) (hd:(match d with | .struct _ | .array _ _=>true|_=>false)=true) (hi:(P.info? ty).map (·.size)=some cs.size)
 (hu2:P.underlying ty2=some d2) (hd2:(match d2 with | .struct _ | .array _ _=>true|_=>false)=true) (hi2:(P.info? ty2).map (·.size)=some cs2.size) :
 (results fn tmps).run P w=.ok (.tuple #[.agg cs,.agg cs2]) w:=by
 have hp':tmps[p]?.getD undef=.pointer (some ⟨g,0,none⟩):=by simpa using hp
 have hp2':tmps[p2]?.getD undef=.pointer (some ⟨g2,0,none⟩):=by simpa using hp2
 simp [results,h,hp',hp2',asAddr,run_loadVar_row w g t ty cs (0,0) d hg hu hd hi,run_loadVar_row w g2 t2 ty2 cs2 (0,0) d2 hg2 hu2 hd2 hi2]
theorem zvH(w:World):(zeroValue 71).run Tryz.prog w=.ok (.agg (va .u32 z8)) w:=by kernel_rfl
set_option maxRecDepth 100000 in
theorem aN3(w:World):
 Calls Tryz.prog 232 #[] w λe w'=>e=.returned (.tuple #[.agg (va .u32 kL),.agg (va .u32 hL)])∧Below w.heap.size w w':=by
 have hzv:=zvW
 have hzh:=zvH
 have b0:aC ((w.alloc (.cells (va .u32 dX) 243)).alloc (.cells (va .u32 z8) 71)) w.heap.size 243 (va .u32 dX):=(aC.new _ _ _).alloc _
 have b1:aC ((w.alloc (.cells (va .u32 dX) 243)).alloc (.cells (va .u32 z8) 71)) (w.heap.size+1) 71 (va .u32 z8):=by
  have:=aC.new (w.alloc (.cells (va .u32 dX) 243)) 71 (va .u32 z8)
  simpa using this
 have hb0:Below w.heap.size w ((w.alloc (.cells (va .u32 dX) 243)).alloc (.cells (va .u32 z8) 71)):=((Below.refl _ _).alloc (aS _) _).alloc (by simp) _
 have hst:=mU (P:=Tryz.prog) b0 .u32 kL (by rw [b9,oZ,sM])
 have b0':=b0.row (va .u32 kL)
 have b1':=b1.rowFar (g':=w.heap.size) (by omega) (va .u32 kL)
 have hst2:=mU (P:=Tryz.prog) b1' .u32 hL (by rw [b9,show z8.length=8 from lR ..,oM])
 have b0'':=Lib.hid (b0'.rowFar (g':=w.heap.size+1) (by omega) (va .u32 hL))
 have b1'':=Lib.hid (b1'.row (va .u32 hL))
 have hb2:=Lib.hid (eJ (eJ hb0 (aS _) (va .u32 kL)) (show w.heap.size≤w.heap.size+1 from by omega) (va .u32 hL))
 have hv1:(va .u32 kL).size=64:=by rw [b9,sM]
 have hv2:(va .u32 hL).size=8:=by rw [b9,oM]
 have hs1:(Tryz.prog.info? 243).map (·.size)=some (va .u32 kL).size:=by rw [hv1];kernel_rfl
 have hs2:(Tryz.prog.info? 71).map (·.size)=some (va .u32 hL).size:=by rw [hv2];kernel_rfl
 have hs1':=Lib.hid hs1
 have hs2':=Lib.hid hs2
 clear b0 b1 hb0 b0' b1' hs1 hs2
 go_enter Tryz.func232,Tryz.ntmps232
 go_wp2_with (first
  |(refine aAA rfl 243 _ rfl (va .u32 kL) (by kernel_rfl) ?_)
  |(refine aAA rfl 71 _ rfl (va .u32 hL) (by kernel_rfl) ?_))
 exact bodyPost_ret (aYu rfl _ _ w.heap.size (w.heap.size+1) 243 71 (va .u32 kL) (va .u32 hL) _ _ rfl rfl b0''.out b1''.out Tryz.underlying243 rfl hs1'.out Tryz.underlying71 rfl hs2'.out) rfl
  ⟨rfl,hb2.out⟩
theorem bH.sub{w:World}{B g o n:Nat}{k:IntKind}{l:List Nat}(h:bH w B 1 (some ⟨g,o,none⟩) n (nv k l))(i m:Nat)(hm:0<m)(hi:i+m≤n):bH w B 1 (some ⟨g,o+i,none⟩) m (nv k ((l.drop i).take m)):=by
 have hl:=h.len
 refine ⟨by rw [aZ];simp;omega,λ_=>?_⟩
 obtain ⟨ad,e,hb,hc⟩:=h.2 (by omega)
 cases e
 refine ⟨_,rfl,hb,λj u hu=>?_⟩
 have hj:j<m:=by
  rcases Nat.lt_or_ge j m with h0|h0
  ·exact h0
  ·rw [fA (by rw [aZ];simp;omega)] at hu;cases hu
 have:=hc (i+j) u (by
  rw [<-tW,<-rT,List.getElem?_take,if_pos hj,List.getElem?_drop] at hu
  exact hu)
 rw [Addr.add_mid] at this ⊢
 rw [Nat.add_assoc];exact this
theorem aHw(x:Nat)(n:Int)(m:Nat)(hm:n=(m:Int))(hx:x<4294967296)(h1:1≤m)(hn:m≤31)(w:World)(q:Nat):
 Calls Tryz.prog 275 #[.int .u32 (x:Int),.int .i64 n] (w.drewN q) λe w''=>e=.returned (.int .u32 (eM x m:Nat))∧∃j,w''=w.drewN j :=
 Calls.quiet_of (uP x n m hm hx h1 hn _)
theorem a8D(e f g:Nat)(he:e<4294967296)(hf:f<4294967296)(hg:g<4294967296):
 bits BinOp.or IntKind.u32 (bits BinOp.and IntKind.u32 (e:Int) (f:Int)) (bits BinOp.and IntKind.u32 (bits BinOp.xor IntKind.u32 IntKind.u32.max (e:Int)) (g:Int))=((ch e f g:Nat):Int):=by
 rw [aHL e he,u32_and_nat _ _ he hf,u32_and_nat _ _ (by omega) hg,u32_or_nat _ _ (mY he) (mY (by omega)),a3t e f g he]
theorem aU0(a b c:Nat)(ha:a<4294967296)(hb:b<4294967296)(hc:c<4294967296):
 bits BinOp.or IntKind.u32 (bits BinOp.or IntKind.u32 (bits BinOp.and IntKind.u32 (a:Int) (b:Int)) (bits BinOp.and IntKind.u32 (a:Int) (c:Int))) (bits BinOp.and IntKind.u32 (b:Int) (c:Int))=((mj a b c:Nat):Int):=by
 rw [u32_and_nat _ _ ha hb,u32_and_nat _ _ ha hc,u32_and_nat _ _ hb hc,u32_or_nat _ _ (mY ha) (mY ha),u32_or_nat _ _ (Nat.or_lt_two_pow (n:=32) (mY ha) (mY ha)) (mY hb),aQ2]
structure sX(G T:Nat)(h b l:List Nat)(k:Nat)(w wr:World):Prop where
 a:aC wr G 71 (va .u32 h)
 r:aC wr (G+1) 71 (va .u32 z8)
 kk:aC wr T 243 (va .u32 kL)
 ww:aC wr (T+1+1) 243 (va .u32 l)
 len:l.length=64
 d:∀j,j<k->l.getD j 0=eE b j
 lt:G+1<T
 bel:Below G w wr
theorem sX.drewN_{G T:Nat}{h b l:List Nat}{k:Nat}{w wr:World}(m:sX G T h b l k w wr)(n:Nat):sX G T h b l k w (wr.drewN n):=⟨m.a,m.r,m.kk,m.ww,m.len,m.d,m.lt,jV m.bel n⟩
theorem sX.step{G T:Nat}{h b l:List Nat}{k:Nat}{w wr:World}(m:sX G T h b l k w wr)(hk:k<64)(v:Nat)(hv:v=eE b k):sX G T h b (l.set k v) (k+1) w (wr.setCell ⟨T+1+1,k,none⟩ (.int .u32 (v:Int))) :=
 ⟨m.a.far (p:=⟨T+1+1,k,none⟩) (by have:=m.lt;simp;omega) _,m.r.far (p:=⟨T+1+1,k,none⟩) (by have:=m.lt;simp;omega) _,m.kk.far (p:=⟨T+1+1,k,none⟩) (by simp;omega) _,m.ww.setNum k v,by rw [List.length_set];exact m.len,
  λj hj=>by
   by_cases e:k=j
   ·subst e;rw [Sh.getD_set_eq (by rw [m.len];exact hk)];exact hv
   ·rw [Sh.getD_set_ne e];exact m.d j (by omega),m.lt,m.bel.setCell (by have:=m.lt;simp;omega) _⟩
set_option maxRecDepth 100000 in
theorem aTo(h b:List Nat)(g o c B:Nat)(hl8:h.length=8)(hh:nK h)(hb:Byt b)(hc64:64≤c)(w:World)(hr:bH w B 1 (some ⟨g,o,none⟩) 64 (nv .u8 b))(hB:B≤w.heap.size):
 Calls Tryz.prog 233 #[.agg (va .u32 h),.slice (some ⟨g,o,none⟩) 64 c] w λe w'=>e=.returned (.agg (va .u32 (comp h b)))∧Below w.heap.size w w':=by
 have hzv:=zvW
 have hzh:=zvH
 have hc64':64≤(c:Int):=by omega
 have hl:=hr.len
 have hr':=Lib.hid hr
 have hB':=Lib.hid hB
 have hl':=Lib.hid hl
 have hl8':=Lib.hid hl8
 clear hr hB hl hl8
 go_enter Tryz.func233,Tryz.ntmps233
 have a0:aC ((w.alloc (.cells (va .u32 h) 71)).alloc (.cells (va .u32 z8) 71)) w.heap.size 71 (va .u32 h):=(aC.new _ _ _).alloc _
 have r0:aC ((w.alloc (.cells (va .u32 h) 71)).alloc (.cells (va .u32 z8) 71)) (w.heap.size+1) 71 (va .u32 z8):=by
  have:=aC.new (w.alloc (.cells (va .u32 h) 71)) 71 (va .u32 z8)
  simpa using this
 have l0:Below w.heap.size w ((w.alloc (.cells (va .u32 h) 71)).alloc (.cells (va .u32 z8) 71)):=((Below.refl _ _).alloc (aS _) _).alloc (by simp) _
 have hs0:((w.alloc (.cells (va .u32 h) 71)).alloc (.cells (va .u32 z8) 71)).heap.size=w.heap.size+2:=by simp
 have a1:=Lib.hid a0
 have r1:=Lib.hid r0
 have l1:=Lib.hid l0
 have hs1:=Lib.hid hs0
 clear a0 r0 l0 hs0
 go_wp2_with fail
 refine (aN3 _).mono ?_
 rintro e w1 ⟨rfl,b1⟩
 have hT:w.heap.size+2≤w1.heap.size:=by rw [<-hs1.out];exact b1.size
 have a2:=a1.out.below b1 a1.out.lt
 have r2:=r1.out.below b1 r1.out.lt
 have l2:=l1.out.trans (b1.mono (by rw [hs1.out];omega))
 have k0:aC ((w1.alloc (.cells (va .u32 dX) 243)).alloc (.cells (va .u32 z8) 71)) w1.heap.size 243 (va .u32 dX):=(aC.new _ _ _).alloc _
 have i0:aC ((w1.alloc (.cells (va .u32 dX) 243)).alloc (.cells (va .u32 z8) 71)) (w1.heap.size+1) 71 (va .u32 z8):=by
  have:=aC.new (w1.alloc (.cells (va .u32 dX) 243)) 71 (va .u32 z8)
  simpa using this
 have hst:=mU (P:=Tryz.prog) k0 .u32 kL (by rw [b9,oZ,sM])
 have i1:=i0.rowFar (g':=w1.heap.size) (by omega) (va .u32 kL)
 have hst2:=mU (P:=Tryz.prog) i1 .u32 hL (by rw [b9,oM,show z8.length=8 from lR ..])
 have k2:=(k0.row (va .u32 kL)).rowFar (g':=w1.heap.size+1) (by omega) (va .u32 hL)
 have b2:Below w.heap.size w ((((w1.alloc (.cells (va .u32 dX) 243)).alloc (.cells (va .u32 z8) 71)).setRow w1.heap.size (va .u32 kL)).setRow (w1.heap.size+1) (va .u32 hL)) :=
  eJ (eJ ((l2.alloc l2.size _).alloc (by have:=l2.size;simp;omega) _) (by omega) _) (by omega) _
 have a3:=(((a2.alloc (Obj.cells (va .u32 dX) 243)).alloc (Obj.cells (va .u32 z8) 71)).rowFar (g':=w1.heap.size) (by omega) (va .u32 kL)).rowFar (g':=w1.heap.size+1) (by omega) (va .u32 hL)
 have r3:=(((r2.alloc (Obj.cells (va .u32 dX) 243)).alloc (Obj.cells (va .u32 z8) 71)).rowFar (g':=w1.heap.size) (by omega) (va .u32 kL)).rowFar (g':=w1.heap.size+1) (by omega) (va .u32 hL)
 have hs3:((((w1.alloc (.cells (va .u32 dX) 243)).alloc (.cells (va .u32 z8) 71)).setRow w1.heap.size (va .u32 kL)).setRow (w1.heap.size+1) (va .u32 hL)).heap.size=w1.heap.size+1+1:=by simp
 have hv1:(va .u32 kL).size=64:=by rw [b9,sM]
 have hv2:(va .u32 hL).size=8:=by rw [b9,oM]
 have hm0:sX w.heap.size w1.heap.size h b dX 0 w (((((w1.alloc (.cells (va .u32 dX) 243)).alloc (.cells (va .u32 z8) 71)).setRow w1.heap.size (va .u32 kL)).setRow (w1.heap.size+1) (va .u32 hL)).alloc (.cells (va .u32 dX) 243)) :=
  ⟨a3.alloc _,r3.alloc _,k2.alloc _,by rw [<-hs3];exact aC.new _ _ _,oZ,λj hj=>by omega,by omega,b2.alloc (by rw [hs3];omega) _⟩
 have hm1:=Lib.hid hm0
 have hT':=Lib.hid hT
 clear hm0 a3 r3 k2 b2 k0 i0 i1 a2 r2 l2 hT b1 a1 r1 l1 hs1
 go_wp2
 clear hst hst2 hv1 hv2 hs3
 generalize (((((w1.alloc (.cells (va .u32 dX) 243)).alloc (.cells (va .u32 z8) 71)).setRow w1.heap.size (va .u32 kL)).setRow (w1.heap.size+1) (va .u32 hL)).alloc (.cells (va .u32 dX) 243))=w3 at *
 generalize w1.heap.size=T at *
 go_loopw [8] (λs wr=>∃(k:Nat) (l:List Nat),k≤64∧s=.int .i64 (k:Int)∧sX w.heap.size T h b l k w wr) (λs _=>64-(intOf s).toNat)
 case atStart=>exact ⟨0,dX,by omega,rfl,hm1.out⟩
 case round =>
  obtain ⟨k,l,hk,rfl,hmem⟩:=hrel
  clear hm1
  have hc:=hmem.ww.num (i:=k)
  have hf:=hmem.ww.frozen k
  have hlen:=hmem.len
  by_cases h16:k<16
  ·have h16':(k:Int)<16:=by omega
   have h64':(k:Int)<64:=by omega
   have q1:(4*(k:Int)).toNat=4*k:=by omega
   have q2:(4*(k:Int)+4).toNat=4*k+4:=by omega
   have q3:¬ c=4*k:=by omega
   have q4:4*(k:Int)+4≤(c:Int):=by omega
   have q5:4*k+4-4*k=4:=by omega
   have hc1:=hc (by rw [hlen];omega)
   have hrw:=(hr'.out.below (hmem.bel.mono hB'.out)).sub (4*k) 4 (by omega) (by omega)
   have hrw':=Lib.hid hrw
   have hbl:=aGb b hb k
   have hmem':=Lib.hid hmem
   clear hmem hc hrw hlen
   generalize l.getD k 0=lk at *
   obtain ⟨x,hx⟩:∃x,fB ((b.drop (4*k)).take 4)=x:=⟨_,rfl⟩
   have hxb:x=T5 b k:=hx.symm
   have hcall:=λw4 hw4=>aVe (some ⟨g,o+4*k,none⟩) 4 (c-4*k) B ((b.drop (4*k)).take 4) 4 rfl (by omega) ((hb.drop _).take _) w4 hw4
   rw [hx] at hcall
   rw [<-hxb] at hbl
   have hbl':(x:Int)<4294967296:=by omega
   have hcall':=Lib.hid hcall
   have hxb':=Lib.hid hxb
   clear hcall hx hxb
   go_wp2_with fail
   refine (hcall'.out _ hrw'.out).mono ?_
   rintro e w4 ⟨rfl,rfl⟩
   go_wp2
   go_roundw
   case rel=>exact ⟨k+1,l.set k x,by omega,by go_num,hmem'.out.step (by omega) x (hxb'.out.trans (aIQ b k h16).symm)⟩
   case measure=>simp [intOf];omega
  ·by_cases h64:k<64
   ·have h16':¬ (k:Int)<16:=by omega
    have hk16':16≤(k:Int):=by omega
    have h64':(k:Int)<64:=by omega
    have hc1:=hc (by rw [hlen];omega)
    have c15:=hmem.ww.num (i:=k-15) (by omega)
    have c2:=hmem.ww.num (i:=k-2) (by omega)
    have c7:=hmem.ww.num (i:=k-7) (by omega)
    have c16:=hmem.ww.num (i:=k-16) (by omega)
    rw [hmem.d _ (by omega)] at c15 c2 c7 c16
    have hw:=Lib.hid (aKY b k (by omega) h64)
    have l15:=pX b hb (k-15)
    have l2:=pX b hb (k-2)
    have l7:=pX b hb (k-7)
    have l16:=pX b hb (k-16)
    generalize eE b (k-15)=x15 at *
    generalize eE b (k-2)=x2 at *
    generalize eE b (k-7)=x7 at *
    generalize eE b (k-16)=x16 at *
    have hmem':=Lib.hid hmem
    clear hmem hc hlen
    generalize l.getD k 0=lk at *
    have i15:((k:Int)-15).toNat=k-15:=by omega
    have i2:((k:Int)-2).toNat=k-2:=by omega
    have i7:((k:Int)-7).toNat=k-7:=by omega
    have i16:((k:Int)-16).toNat=k-16:=by omega
    have w15:IntKind.i64.wrap ((k:Int)-15)=(k:Int)-15:=IntWalk.i64_in _ (by omega)
    have w2:IntKind.i64.wrap ((k:Int)-2)=(k:Int)-2:=IntWalk.i64_in _ (by omega)
    have w7:IntKind.i64.wrap ((k:Int)-7)=(k:Int)-7:=IntWalk.i64_in _ (by omega)
    have w16:IntKind.i64.wrap ((k:Int)-16)=(k:Int)-16:=IntWalk.i64_in _ (by omega)
    have n15:0≤(k:Int)-15:=by omega
    have n2:0≤(k:Int)-2:=by omega
    have n7:0≤(k:Int)-7:=by omega
    have n16:0≤(k:Int)-16:=by omega
    have u15:(k:Int)-15<64:=by omega
    have u2:(k:Int)-2<64:=by omega
    have u7:(k:Int)-7<64:=by omega
    have u16:(k:Int)-16<64:=by omega
    have e0:=aNT x15 l15
    have e1:=aIk x2 l2
    go_wp2
    go_quiet (fail)
    clear w15 w2 i15 i2 c15 c2 n15 n2 u15 u2
    have hmd:=hmem'.out.drewN_ nq
    have hc1':(wr.drewN nq).cell? ⟨T+1+1,k,none⟩=some (.int .u32 (lk:Int)):=hc1
    have hf':(wr.drewN nq).frozen? ⟨T+1+1,k,none⟩=false:=hf
    have c7':(wr.drewN nq).cell? ⟨T+1+1,k-7,none⟩=some (.int .u32 (x7:Int)):=c7
    have c16':(wr.drewN nq).cell? ⟨T+1+1,k-16,none⟩=some (.int .u32 (x16:Int)):=c16
    clear hmem' hc1 hf c7 c16
    generalize wr.drewN nq=wr1 at *
    have hmd':=Lib.hid hmd
    have m7:7≤(k:Int):=by omega
    have d7:¬ k-7=k:=by omega
    have d16:¬ k-16=k:=by omega
    have d7':¬ k=k-7:=by omega
    have d16':¬ k=k-16:=by omega
    clear hmd
    go_upto_region 10 with fail
    go_region_held3 (λw'=>w'.cell? ⟨T+1+1,k-7,none⟩=some (.int .u32 (x7:Int))∧w'.cell? ⟨T+1+1,k-16,none⟩=some (.int .u32 (x16:Int)))
     (first
      |go_keep
      |(refine ⟨?_,?_⟩<;>(refine (World.cell?_setCell_other _ _ _ _ (λe=>by injection e with _ e2 _;omega)).trans ?_;go_keep)))
     ((first
       |(go_at_call 275;(with_reducible refine (uP x15 7 7 rfl l15 (by omega) (by omega) _).mono ?_);rintro e w5 ⟨rfl,j5,rfl⟩)
       |(go_at_call 275;(with_reducible refine (uP x15 18 18 rfl l15 (by omega) (by omega) _).mono ?_);rintro e w5 ⟨rfl,j5,rfl⟩)
       |(go_at_call 275;(with_reducible refine (uP x2 17 17 rfl l2 (by omega) (by omega) _).mono ?_);rintro e w5 ⟨rfl,j5,rfl⟩)
       |(go_at_call 275;(with_reducible refine (uP x2 19 19 rfl l2 (by omega) (by omega) _).mono ?_);rintro e w5 ⟨rfl,j5,rfl⟩)))
    go_wp2
    go_roundw
    case rel =>
     refine ⟨k+1,l.set k (eE b k),by omega,by go_num,?_⟩
     have ev:((((x16:Int)+x7)%4294967296+(yV x15:Nat))%4294967296+(D5 x2:Nat))%4294967296=((eE b k:Nat):Int):=by rw [hw.out];omega
     rw [ev]
     exact (hmd'.out.drewN_ _).step h64 _ rfl
    case measure=>simp [intOf];omega
   ·obtain rfl:k=64:=by omega
    have ek:((64:Nat):Int)=64:=rfl
    have hall:∀j,j<64->l.getD j 0=eE b j:=hmem.d
    have e64:¬ ((64:Nat):Int)<64:=by omega
    have c0:=hmem.a.num (i:=0) (by rw [hl8'.out];omega)
    have l0:=hh 0
    obtain ⟨a0,ha0⟩:∃a,h.getD 0 0=a:=⟨_,rfl⟩
    rw [ha0] at c0 l0
    have c1:=hmem.a.num (i:=1) (by rw [hl8'.out];omega)
    have l1:=hh 1
    obtain ⟨a1,ha1⟩:∃a,h.getD 1 0=a:=⟨_,rfl⟩
    rw [ha1] at c1 l1
    have c2:=hmem.a.num (i:=2) (by rw [hl8'.out];omega)
    have l2:=hh 2
    obtain ⟨a2,ha2⟩:∃a,h.getD 2 0=a:=⟨_,rfl⟩
    rw [ha2] at c2 l2
    have c3:=hmem.a.num (i:=3) (by rw [hl8'.out];omega)
    have l3:=hh 3
    obtain ⟨a3,ha3⟩:∃a,h.getD 3 0=a:=⟨_,rfl⟩
    rw [ha3] at c3 l3
    have c4:=hmem.a.num (i:=4) (by rw [hl8'.out];omega)
    have l4:=hh 4
    obtain ⟨a4,ha4⟩:∃a,h.getD 4 0=a:=⟨_,rfl⟩
    rw [ha4] at c4 l4
    have c5:=hmem.a.num (i:=5) (by rw [hl8'.out];omega)
    have l5:=hh 5
    obtain ⟨a5,ha5⟩:∃a,h.getD 5 0=a:=⟨_,rfl⟩
    rw [ha5] at c5 l5
    have c6:=hmem.a.num (i:=6) (by rw [hl8'.out];omega)
    have l6:=hh 6
    obtain ⟨a6,ha6⟩:∃a,h.getD 6 0=a:=⟨_,rfl⟩
    rw [ha6] at c6 l6
    have c7:=hmem.a.num (i:=7) (by rw [hl8'.out];omega)
    have l7:=hh 7
    obtain ⟨a7,ha7⟩:∃a,h.getD 7 0=a:=⟨_,rfl⟩
    rw [ha7] at c7 l7
    have ha0':=Lib.hid ha0
    have ha1':=Lib.hid ha1
    have ha2':=Lib.hid ha2
    have ha3':=Lib.hid ha3
    have ha4':=Lib.hid ha4
    have ha5':=Lib.hid ha5
    have ha6':=Lib.hid ha6
    have ha7':=Lib.hid ha7
    have hmem':=Lib.hid hmem
    have hall':=Lib.hid hall
    have hrd:=Lib.hid (show nQ h b 0=[a0,a1,a2,a3,a4,a5,a6,a7] from by
     show h=_
     rw [<-ha0,<-ha1,<-ha2,<-ha3,<-ha4,<-ha5,<-ha6,<-ha7]
     have h8:=hl8'.out
     match h,h8 with
     |[_,_,_,_,_,_,_,_],_=>rfl)
    clear hmem hc hlen hall ha0 ha1 ha2 ha3 ha4 ha5 ha6 ha7 hf
    go_wp2
    go_quiet (fail)
    clear c0 c1 c2 c3 c4 c5 c6 c7
    have hm2:=Lib.hid (hmem'.out.drewN_ nq)
    clear hmem'
    generalize wr.drewN nq=wr1 at *
    go_wp2
    go_loopw [13,14,15,16,17,18,19,20,21] (λs0 s1 s2 s3 s4 s5 s6 s7 st wr=>∃(k x0 x1 x2 x3 x4 x5 x6 x7:Nat),k≤64∧st=.int .i64 (k:Int)∧s0=.int .u32 (x0:Int)∧s1=.int .u32 (x1:Int)∧s2=.int .u32 (x2:Int)∧s3=.int .u32 (x3:Int)∧s4=.int .u32 (x4:Int)∧s5=.int .u32 (x5:Int)∧s6=.int .u32 (x6:Int)∧s7=.int .u32 (x7:Int)∧nQ h b k=[x0,x1,x2,x3,x4,x5,x6,x7]∧sX w.heap.size T h b l 64 w wr) (λ_ _ _ _ _ _ _ _ st _=>64-(intOf st).toNat)
    case atStart=>exact ⟨0,a0,a1,a2,a3,a4,a5,a6,a7,by omega,rfl,rfl,rfl,rfl,rfl,rfl,rfl,rfl,rfl,hrd.out,hm2.out⟩
    case round =>
     obtain ⟨k,x0,x1,x2,x3,x4,x5,x6,x7,hk,rfl,rfl,rfl,rfl,rfl,rfl,rfl,rfl,rfl,hx,hmem⟩:=hrel
     clear hm2
     have hlt:=aGu h b hh k
     rw [hx] at hlt
     have m0:x0<4294967296:=hlt 0
     have m1:x1<4294967296:=hlt 1
     have m2:x2<4294967296:=hlt 2
     have m3:x3<4294967296:=hlt 3
     have m4:x4<4294967296:=hlt 4
     have m5:x5<4294967296:=hlt 5
     have m6:x6<4294967296:=hlt 6
     have m7:x7<4294967296:=hlt 7
     have hx':=Lib.hid hx
     clear hlt hx
     by_cases hlt:k<64
     ·have hlt':(k:Int)<64:=by omega
      have ck:=hmem.kk.num (i:=k) (by rw [sM];exact hlt)
      rw [show kL.getD k 0=pO k from fS _ _ _ hlt] at ck
      have cw:=hmem.ww.num (i:=k) (by rw [hmem.len];exact hlt)
      rw [hall'.out k hlt] at cw
      have lk:=aM8 k
      have lw:=pX b hb k
      generalize hkk:pO k=kk at *
      generalize hww:eE b k=ww at *
      have hmem':=Lib.hid hmem
      have hkk':=Lib.hid hkk
      have hww':=Lib.hid hww
      clear hmem hkk hww
      have hy:nQ h b (k+1)=[(t1 kk ww [x0,x1,x2,x3,x4,x5,x6,x7]+t2 [x0,x1,x2,x3,x4,x5,x6,x7])%4294967296,x0,x1,x2,(x3+t1 kk ww [x0,x1,x2,x3,x4,x5,x6,x7])%4294967296,x4,x5,x6]:=by
       show E6 (pO k) (eE b k) (nQ h b k)=_
       rw [hx'.out,hkk'.out,hww'.out];rfl
      have hy':=Lib.hid hy
      clear hy
      have e1:=aK1 x4 m4
      have e2:=a8D x4 x5 x6 m4 m5 m6
      have e3:=aLB x0 m0
      have e4:=aU0 x0 x1 x2 m0 m1 m2
      go_wp2
      go_quiet ((go_at_call 275;(first|(with_reducible exact aHw _ 6 6 rfl m4 (by omega) (by omega) _ _)|(with_reducible exact aHw _ 11 11 rfl m4 (by omega) (by omega) _ _)|(with_reducible exact aHw _ 25 25 rfl m4 (by omega) (by omega) _ _))))
      clear e1 e2 ck cw
      have hm3:=Lib.hid (hmem'.out.drewN_ nq)
      clear hmem'
      generalize wr.drewN nq=wr3 at *
      go_wp2_with (first
       |(go_at_call 275;(with_reducible refine (uP x0 2 2 rfl m0 (by omega) (by omega) _).mono ?_);rintro e w5 ⟨rfl,j5,rfl⟩)
       |(go_at_call 275;(with_reducible refine (uP x0 13 13 rfl m0 (by omega) (by omega) _).mono ?_);rintro e w5 ⟨rfl,j5,rfl⟩)
       |(go_at_call 275;(with_reducible refine (uP x0 22 22 rfl m0 (by omega) (by omega) _).mono ?_);rintro e w5 ⟨rfl,j5,rfl⟩))
      go_roundw
      case rel =>
       have v0:(((x7:Int)+(B5 x4:Nat)+(ch x4 x5 x6:Nat)+(kk:Int)+(ww:Int))%4294967296+((bED x0:Nat)+(mj x0 x1 x2:Nat))%4294967296)%4294967296=(((t1 kk ww [x0,x1,x2,x3,x4,x5,x6,x7]+t2 [x0,x1,x2,x3,x4,x5,x6,x7])%4294967296:Nat):Int):=by
        simp only [t1,t2,List.getD_cons_zero,List.getD_cons_succ];omega
       have v4:((x3:Int)+((x7:Int)+(B5 x4:Nat)+(ch x4 x5 x6:Nat)+(kk:Int)+(ww:Int))%4294967296)%4294967296=(((x3+t1 kk ww [x0,x1,x2,x3,x4,x5,x6,x7])%4294967296:Nat):Int):=by
        simp only [t1,List.getD_cons_zero,List.getD_cons_succ];omega
       rw [v0,v4]
       exact ⟨k+1,_,x0,x1,x2,_,x4,x5,x6,by omega,by go_num,rfl,rfl,rfl,rfl,rfl,rfl,rfl,rfl,hy'.out,hm3.out.drewN_ _⟩
      case measure=>simp [intOf];omega
     ·obtain rfl:k=64:=by omega
      have e64':¬ ((64:Nat):Int)<64:=by omega
      have c0:=hmem.a.num (i:=0) (by rw [hl8'.out];omega)
      have c1:=hmem.a.num (i:=1) (by rw [hl8'.out];omega)
      have c2:=hmem.a.num (i:=2) (by rw [hl8'.out];omega)
      have c3:=hmem.a.num (i:=3) (by rw [hl8'.out];omega)
      have c4:=hmem.a.num (i:=4) (by rw [hl8'.out];omega)
      have c5:=hmem.a.num (i:=5) (by rw [hl8'.out];omega)
      have c6:=hmem.a.num (i:=6) (by rw [hl8'.out];omega)
      have c7:=hmem.a.num (i:=7) (by rw [hl8'.out];omega)
      rw [ha0'.out] at c0
      rw [ha1'.out] at c1
      rw [ha2'.out] at c2
      rw [ha3'.out] at c3
      rw [ha4'.out] at c4
      rw [ha5'.out] at c5
      rw [ha6'.out] at c6
      rw [ha7'.out] at c7
      have hmem':=Lib.hid hmem
      clear hmem
      go_wp2_with (first
       |(refine aAA rfl 71 _ rfl #[.int .u32 ((((a0:Nat):Int)+((x0:Nat):Int))%4294967296),.int .u32 ((((a1:Nat):Int)+((x1:Nat):Int))%4294967296),.int .u32 ((((a2:Nat):Int)+((x2:Nat):Int))%4294967296),.int .u32 ((((a3:Nat):Int)+((x3:Nat):Int))%4294967296),.int .u32 ((((a4:Nat):Int)+((x4:Nat):Int))%4294967296),.int .u32 ((((a5:Nat):Int)+((x5:Nat):Int))%4294967296),.int .u32 ((((a6:Nat):Int)+((x6:Nat):Int))%4294967296),.int .u32 ((((a7:Nat):Int)+((x7:Nat):Int))%4294967296)] (by kernel_rfl) ?_)
       |(refine wpList_store_row rfl 71 (.tmp 4) (.tmp 201) rfl (w.heap.size+1) #[.int .u32 ((((a0:Nat):Int)+((x0:Nat):Int))%4294967296),.int .u32 ((((a1:Nat):Int)+((x1:Nat):Int))%4294967296),.int .u32 ((((a2:Nat):Int)+((x2:Nat):Int))%4294967296),.int .u32 ((((a3:Nat):Int)+((x3:Nat):Int))%4294967296),.int .u32 ((((a4:Nat):Int)+((x4:Nat):Int))%4294967296),.int .u32 ((((a5:Nat):Int)+((x5:Nat):Int))%4294967296),.int .u32 ((((a6:Nat):Int)+((x6:Nat):Int))%4294967296),.int .u32 ((((a7:Nat):Int)+((x7:Nat):Int))%4294967296)] rfl rfl 71 (va .u32 z8) hmem'.out.r (by kernel_rfl) (by rw [b9,show z8.length=8 from lR ..];rfl) (by simp [Value.oneCell']) ?_))
      have hfin:(#[.int .u32 ((((a0:Nat):Int)+((x0:Nat):Int))%4294967296),.int .u32 ((((a1:Nat):Int)+((x1:Nat):Int))%4294967296),.int .u32 ((((a2:Nat):Int)+((x2:Nat):Int))%4294967296),.int .u32 ((((a3:Nat):Int)+((x3:Nat):Int))%4294967296),.int .u32 ((((a4:Nat):Int)+((x4:Nat):Int))%4294967296),.int .u32 ((((a5:Nat):Int)+((x5:Nat):Int))%4294967296),.int .u32 ((((a6:Nat):Int)+((x6:Nat):Int))%4294967296),.int .u32 ((((a7:Nat):Int)+((x7:Nat):Int))%4294967296)]:Array Value)=va .u32 (comp h b):=by
       unfold comp tK
       rw [hx'.out]
       simp only [va,nv,List.range,List.range.loop,List.map_cons,List.map_nil,List.getD_cons_zero,List.getD_cons_succ,ha0'.out,ha1'.out,ha2'.out,ha3'.out,ha4'.out,ha5'.out,ha6'.out,ha7'.out,Int.natCast_emod,Int.natCast_add]
       rfl
      exact bodyPost_ret (results_cell_row rfl _ _ (w.heap.size+1) 71 #[.int .u32 ((((a0:Nat):Int)+((x0:Nat):Int))%4294967296),.int .u32 ((((a1:Nat):Int)+((x1:Nat):Int))%4294967296),.int .u32 ((((a2:Nat):Int)+((x2:Nat):Int))%4294967296),.int .u32 ((((a3:Nat):Int)+((x3:Nat):Int))%4294967296),.int .u32 ((((a4:Nat):Int)+((x4:Nat):Int))%4294967296),.int .u32 ((((a5:Nat):Int)+((x5:Nat):Int))%4294967296),.int .u32 ((((a6:Nat):Int)+((x6:Nat):Int))%4294967296),.int .u32 ((((a7:Nat):Int)+((x7:Nat):Int))%4294967296)] (0,0) _ rfl (hmem'.out.r.row _) Tryz.underlying71 rfl (by kernel_rfl)) rfl ⟨by rw [hfin],eJ hmem'.out.bel (by omega) _⟩
theorem mG(l:List Nat)(h:l.length=32):(Tryz.prog.info? 32).map (·.size)=some (va .u8 l).size:=by rw [b9,h];kernel_rfl
theorem J2(w:World):(zeroValue 32).run Tryz.prog w=.ok (.agg (va .u8 (List.replicate 32 0))) w:=by kernel_rfl
theorem aBM{w:World}{B B0 n:Nat}{A:Option Addr}{k:IntKind}{l:List Nat}(h:bH w B 1 A n (nv k l))(hB:B≤B0):Hid (∀W,Below B0 w W->bH W B 1 A n (nv k l)):=Lib.hid λ_W hb=>h.below (hb.mono hB)
theorem vP(l:List Nat)(h:l.length=8):(Tryz.prog.info? 71).map (·.size)=some (va .u32 l).size:=by rw [b9,h];kernel_rfl
theorem aQr(w:World):(zeroValue 71).run Tryz.prog w=.ok (.agg (va .u32 (List.replicate 8 0))) w:=by kernel_rfl
theorem aDn(l:List Nat)(h:l.length=64):(Tryz.prog.info? 243).map (·.size)=some (va .u32 l).size:=by rw [b9,h];kernel_rfl
theorem bCM(w:World):(zeroValue 243).run Tryz.prog w=.ok (.agg (va .u32 (List.replicate 64 0))) w:=by kernel_rfl
def lP(h:List Nat)(m:Nat):List Nat:=(List.range 32).map λj=>if j<m then (flat h).getD j 0 else 0
theorem tR(h:List Nat)(m:Nat):(lP h m).length=32:=by simp [lP]
theorem a8U(h:List Nat):lP h 0=List.replicate 32 0:=by
 apply oS (by simp [lP])
 intro j hj
 rw [tR] at hj
 rw [lP,fS _ _ _ hj,if_neg (by omega),cP,List.getElem?_replicate,if_pos hj];rfl
theorem aVB(h:List Nat):lP h 32=flat h:=by
 apply oS (by rw [tR,qC])
 intro j hj
 rw [tR] at hj
 rw [lP,fS _ _ _ hj,if_pos hj]
theorem aRT(h:List Nat)(m:Nat)(hm:m<32):(lP h m).set m ((flat h).getD m 0)=lP h (m+1):=by
 apply oS (by rw [List.length_set,tR,tR])
 intro j hj
 rw [List.length_set,tR] at hj
 by_cases e:m=j
 ·subst e
  rw [getD_set_eq (by rw [tR];exact hm),lP,fS _ _ _ hj,if_pos (by omega)]
 ·rw [Sh.getD_set_ne e,lP,fS _ _ _ hj,lP,fS _ _ _ hj]
  by_cases h:j<m
  ·rw [if_pos h,if_pos (by omega)]
  ·rw [if_neg h,if_neg (by omega)]
theorem aQ0(h:List Nat)(i k:Nat)(hi:i<8)(hk:k<4):(flat h).getD (4*i+k) 0=(beB (h.getD i 0) 4).getD k 0:=by
 rw [flat,fS _ _ _ (by omega),beB,fS _ _ _ hk,show (4*i+k) / 4=i from by omega,show (4*i+k)%4=k from by omega]
theorem aK8(l:List Nat):(cV l).length=l.length+1+Sh.zeros l.length+8:=by simp [cV,beB_len];omega
theorem aW1(l:List Nat):(cV l).length%64=0:=by rw [aK8];unfold Sh.zeros;omega
theorem aPo(x:Nat)(hx:x<256):Byt [x]:=λy hy=>by simp at hy;omega
theorem aXZ(l:List Nat)(k:Nat)(h:Byt l):Byt (gL l k):=(h.app (aPo 128 (by omega))).app (Byt.rep _ _ (by omega))
theorem aLl(v:Nat)(hv:v<4294967296)(w:World):
 Calls Tryz.prog 178 #[.int .u32 (v:Int)] w λe w'=>∃g,e=.returned (.slice (some ⟨g,0,none⟩) 4 4)∧aC w' g 5 (va .u8 (beB v 4))∧w.heap.size≤g∧Below w.heap.size w w':=by
 refine (aKW v hv w).mono ?_
 rintro e w' ⟨r,rfl,g,rfl,h1,h2,h3⟩
 exact ⟨g,by rw [beB_len],h1,h2,h3⟩
theorem aMs(v:Nat)(hv:v<18446744073709551616)(w:World):
 Calls Tryz.prog 231 #[.int .u64 (v:Int)] w λe w'=>∃g,e=.returned (.slice (some ⟨g,0,none⟩) 8 8)∧aC w' g 5 (va .u8 (beB v 8))∧w.heap.size≤g∧Below w.heap.size w w':=by
 refine (aOf v hv w).mono ?_
 rintro e w' ⟨r,rfl,g,rfl,h1,h2,h3⟩
 exact ⟨g,by rw [beB_len],h1,h2,h3⟩
theorem bD8(l:List Nat)(h:Byt l):Byt (cV l):=(aXZ l _ h).app (beB_byt _ _)
set_option maxRecDepth 8000 in
theorem aAR(l:List Nat)(A:Option Addr)(n c B:Nat)(hl:Byt l)(hn:n<1000000)(w:World)(hr:bH w B 1 A n (nv .u8 l))(hB:B≤w.heap.size):
 Calls Tryz.prog 176 #[.slice A n c] w λe w'=>e=.returned (.agg (va .u8 (sha l)))∧Below w.heap.size w w':=by
 have hln:=hr.len
 obtain ⟨B0,hB0e,hW,hB0⟩:=B9 w
 rw [hB0e]
 have hBB:B≤B0:=by omega
 have rd:=aBM hr hBB
 clear hr hB
 have hB0q:=Lib.hid hB0e
 clear hB0e
 go_enter Tryz.func176,Tryz.ntmps176
 go_upto_region 0 with fail
 refine c9 ?_
 refine dD 2 (.pointer (some ⟨w.heap.size,0,none⟩)) (w.alloc (.cells (va .u8 (List.replicate 32 0)) 32)) rfl (by rfl) (oO 32 rfl _ (J2 _)) ?_
 simp only [Ls]
 have lw_p2:=bI hB0 hW.size
 have hp2:=aC.new w 32 (va .u8 (List.replicate 32 0))
 replace hW:=lQ hW hB0 (.cells (va .u8 (List.replicate 32 0)) 32)
 generalize w.alloc (.cells (va .u8 (List.replicate 32 0)) 32)=w1 at *
 generalize w.heap.size=p2 at hp2 lw_p2  ⊢
 refine dA ?_
 go_upto_region 1 with fail
 refine c9 ?_
 refine dD 11 (.slice (some ⟨w1.heap.size,0,none⟩) 0 0) (w1.alloc (.cells (va .u8 ([])) 5)) rfl (by rfl) (kP 23 0 _ rfl _ (by exact X5 _)) ?_
 simp only [Ls]
 have lp2_q1:=hp2.lt
 have lw_q1:=bI hB0 hW.size
 have hq1:aC (w1.alloc (.cells (va .u8 ([])) 5)) w1.heap.size 5 (va .u8 ([])):=aC.new _ _ _
 have bx:=sE w1 (.cells (va .u8 ([])) 5)
 replace hp2:=gO hp2 bx
 replace hW:=kQ hW hB0 bx
 clear bx
 generalize w1.alloc (.cells (va .u8 ([])) 5)=w2 at *
 generalize w1.heap.size=q1 at hq1 lw_q1 lp2_q1 ⊢
 refine aY 12 (.slice A n c) rfl (by rfl) (by go_simp) ?_
 simp only [Ls]
 have hoq1:cA w2 B0 (some ⟨q1,0,none⟩) 0 0 ([]):=hq1.owned rfl lw_q1 (by unfold maxLen;omega)
 have noq1_p2:eI (some ⟨q1,0,none⟩) p2:=λa ha=>by cases ha;simp;omega
 clear hq1
 obtain ⟨A1,cA1,w3,hap,hA1,hcA1,hgr,hof⟩:=nS hoq1 A n c _ l (rd.out _ hW) (bI hB0 hW.size) l (by simp) n (by omega) (by omega) 23
 refine dD 13 (.slice A1 n cA1) w3 rfl (by rfl) (j8 _ _ _ _ rfl _ _ _ rfl rfl hap) ?_
 simp only [Ls]
 have nA1_p2:=hof p2 noq1_p2 hp2.lt
 replace hp2:=hp2.grown hgr (noq1_p2.ob _ _)
 replace hW:=cA.belowG hW (bI hB0 hW.size) hoq1.from_ hgr
 clear hoq1 hgr hof hap
 refine dD 14 (.slice (some ⟨w3.heap.size,0,none⟩) 1 1) (w3.alloc (.cells (va .u8 [128]) 5)) rfl (by rfl) (kP 23 1 _ rfl _ (by exact zH 128 _)) ?_
 simp only [Ls]
 have lp2_q2:=hp2.lt
 have nA1_q2:=hA1.new_off
 have lw_q2:=bI hB0 hW.size
 have hq2:aC (w3.alloc (.cells (va .u8 [128]) 5)) w3.heap.size 5 (va .u8 [128]):=aC.new _ _ _
 replace hp2:=hp2.alloc (.cells (va .u8 [128]) 5)
 replace hA1:=hA1.alloc (.cells (va .u8 [128]) 5)
 replace hW:=lQ hW hB0 (.cells (va .u8 [128]) 5)
 generalize w3.alloc (.cells (va .u8 [128]) 5)=w4 at *
 generalize w3.heap.size=q2 at hq2 lw_q2 lp2_q2 nA1_q2 ⊢
 obtain ⟨A2,cA2,w5,hap,hA2,hcA2,hgr,hof⟩:=nS hA1 (some ⟨q2,0,none⟩) 1 1 _ ([128]) (hq2.readsAll (Nat.lt_succ_self _) rfl) (bI hB0 hW.size) (l++[128]) rfl (n+1) (by omega) (by omega) 23
 refine dD 15 (.slice A2 (n+1) cA2) w5 rfl (by rfl) (j8 _ _ _ _ rfl _ _ _ rfl rfl hap) ?_
 simp only [Ls]
 have nA2_p2:=hof p2 nA1_p2 hp2.lt
 replace hp2:=hp2.grown hgr (nA1_p2.ob _ _)
 have nA2_q2:=hof q2 nA1_q2 hq2.lt
 replace hq2:=hq2.grown hgr (nA1_q2.ob _ _)
 replace hW:=cA.belowG hW (bI hB0 hW.size) hA1.from_ hgr
 clear hA1 hgr hof hap
 refine aY 3 (.slice A2 (n+1) cA2) rfl (by rfl) (by go_simp) ?_
 simp only [Ls]
 refine dA ?_
 clear hq2
 have hzs:=aLF n
 have hstop:=aMC n
 rw [<-aL3] at hA2
 go_wp2
 go_loopw [3] (λv wr=>∃(k N:Nat) (A:Option Addr) (c:Nat),v=.slice A N c∧N=n+1+k∧k≤Sh.zeros n∧cA wr B0 A N c (gL l k)∧eI A p2∧aC wr p2 32 (va .u8 (List.replicate 32 0))∧Below B0 w wr) (λv _=>Sh.zeros n+n+2-rH v)
 case atStart=>exact ⟨0,n+1,A2,cA2,rfl,rfl,by omega,hA2,nA2_p2,hp2,hW⟩
 case round =>
  clear hA2 nA2_p2 hp2 hW hcA2 hcA1 lp2_q2 lp2_q1
  obtain ⟨k,N,A3,cA3,rfl,hN,hk,hA3,nA3_p2,hp2,hW⟩:=hrel
  have hst:=hstop k hk
  by_cases hlt:k<Sh.zeros n
  ·
   have hne:¬ N%64=56:=by omega
   have hneI:¬ (N:Int)%64=56:=by omega
   have htm:(N:Int).tmod 64=(N:Int)%64:=Int.tmod_eq_emod_of_nonneg (by omega)
   clear hst
   go_upto_region 3 with fail
   refine c9 ?_
   refine aY 20 (.slice A3 N cA3) rfl (by rfl) (by go_simp) ?_
   simp only [Ls]
   refine dD 21 (.slice (some ⟨wr.heap.size,0,none⟩) 1 1) (wr.alloc (.cells (va .u8 [0]) 5)) rfl (by rfl) (kP 23 1 _ rfl _ (by exact zH 0 _)) ?_
   simp only [Ls]
   have lp2_q3:=hp2.lt
   have nA3_q3:=hA3.new_off
   have lw_q3:=bI hB0 hW.size
   have hq3:aC (wr.alloc (.cells (va .u8 [0]) 5)) wr.heap.size 5 (va .u8 [0]):=aC.new _ _ _
   replace hp2:=hp2.alloc (.cells (va .u8 [0]) 5)
   replace hA3:=hA3.alloc (.cells (va .u8 [0]) 5)
   replace hW:=lQ hW hB0 (.cells (va .u8 [0]) 5)
   generalize wr.alloc (.cells (va .u8 [0]) 5)=w6 at *
   generalize wr.heap.size=q3 at hq3 lw_q3 lp2_q3 nA3_q3 ⊢
   obtain ⟨A4,cA4,w7,hap,hA4,hcA4,hgr,hof⟩:=nS hA3 (some ⟨q3,0,none⟩) 1 1 _ ([0]) (hq3.readsAll (Nat.lt_succ_self _) rfl) (bI hB0 hW.size) (gL l (k+1)) (aOl _ _) (N+1) (by omega) (by omega) 23
   refine dD 22 (.slice A4 (N+1) cA4) w7 rfl (by rfl) (j8 _ _ _ _ rfl _ _ _ rfl rfl hap) ?_
   simp only [Ls]
   have nA4_p2:=hof p2 nA3_p2 hp2.lt
   replace hp2:=hp2.grown hgr (nA3_p2.ob _ _)
   have nA4_q3:=hof q3 nA3_q3 hq3.lt
   replace hq3:=hq3.grown hgr (nA3_q3.ob _ _)
   replace hW:=cA.belowG hW (bI hB0 hW.size) hA3.from_ hgr
   clear hA3 hgr hof hap
   refine aY 3 (.slice A4 (N+1) cA4) rfl (by rfl) (by go_simp) ?_
   simp only [Ls]
   refine dA ?_
   go_wp2
   go_roundw
   case rel=>exact ⟨k+1,N+1,A4,cA4,rfl,by omega,by omega,hA4,nA4_p2,hp2,hW⟩
   case measure=>simp [rH];omega
  ·
   obtain rfl:k=Sh.zeros n:=by omega
   have heq:N%64=56:=by omega
   have heqI:(N:Int)%64=56:=by omega
   have htm:(N:Int).tmod 64=(N:Int)%64:=Int.tmod_eq_emod_of_nonneg (by omega)
   have w64a:IntKind.u64.wrap (n:Int)=(n:Int):=IntWalk.u64_in _ (by omega)
   have w64b:IntKind.u64.wrap (8*(n:Int))=((8*n:Nat):Int):=(IntWalk.u64_in _ (by omega)).trans (by omega)
   clear hlt hst hk
   have hpl:=aK8 l
   rw [hln] at hpl
   have hpm:=aW1 l
   obtain ⟨b,hb⟩:∃b,(cV l).length=64*b:=⟨(cV l).length / 64,by omega⟩
   have hsha:sha l=flat (hs (cV l) b):=by unfold sha;rw [hb,show 64*b / 64=b by omega]
   have hshaq:=Lib.hid hsha
   clear hsha hpm
   go_upto_region 4 with fail
   refine c9 ?_
   refine aY 23 (.slice A3 N cA3) rfl (by rfl) (by go_simp) ?_
   refine aY 24 (.slice A n c) rfl (by rfl) (by go_simp) ?_
   refine aY 25 (.int .i64 n) rfl (by rfl) (by go_simp) ?_
   refine aY 26 (.int .u64 (n:Int)) rfl (by rfl) (by go_simp) ?_
   refine aY 27 (.int .u64 ((8*n:Nat):Int)) rfl (by rfl) (by go_simp) ?_
   simp only [Ls]
   refine xK 28 rfl (by rfl) (λK hK=>uU 231 #[.int .u64 ((8*n:Nat):Int)] (by go_simp) (aMs (8*n) (by omega) _) ?_)
   rintro e w8 ⟨g,rfl,hg,hgg,bx⟩
   have lp2_g:p2<g:=eQ hp2.lt hgg
   have nA3_g:=hA3.off_ge hgg
   have lw_g:B0≤g:=bI (bI hB0 hW.size) hgg
   replace hp2:=gO hp2 bx
   replace hA3:=hA3.below bx
   replace hW:=kQ hW hB0 bx
   clear hgg
   clear bx
   refine ⟨_,rfl,hK.out _ _ ?_⟩
   clear hK K
   simp only [Ls]
   obtain ⟨A5,cA5,w9,hap,hA5,hcA5,hgr,hof⟩:=nS hA3 (some ⟨g,0,none⟩) 8 8 _ (beB (8*n) 8) (hg.readsAll (Nat.lt_succ_self _) (beB_len _ _)) (bI hB0 hW.size) (cV l) (by rw [aSu,hln]) (64*b) (by omega) (by omega) 23
   refine dD 29 (.slice A5 (64*b) cA5) w9 rfl (by rfl) (j8 _ _ _ _ rfl _ _ _ rfl rfl hap) ?_
   simp only [Ls]
   have nA5_p2:=hof p2 nA3_p2 hp2.lt
   replace hp2:=hp2.grown hgr (nA3_p2.ob _ _)
   have nA5_g:=hof g nA3_g hg.lt
   replace hg:=hg.grown hgr (nA3_g.ob _ _)
   replace hW:=cA.belowG hW (bI hB0 hW.size) hA3.from_ hgr
   clear hA3 hgr hof hap
   refine aY 3 (.slice A5 (64*b) cA5) rfl (by rfl) (by go_simp) ?_
   simp only [Ls]
   refine dA ?_
   clear hg
   go_upto_region 5 with fail
   refine c9 ?_
   refine xK 31 rfl (by rfl) (λK hK=>uU 232 #[] (by go_simp) (aN3 _) ?_)
   rintro e w10 ⟨rfl,bx⟩
   replace hp2:=gO hp2 bx
   replace hA5:=hA5.below bx
   replace hW:=kQ hW hB0 bx
   clear bx
   refine ⟨_,rfl,hK.out _ _ ?_⟩
   clear hK K
   refine aY 30 (.tuple #[.agg (va .u32 kL),.agg (va .u32 hL)]) rfl (by rfl) (by go_simp) ?_
   refine aY 32 (.agg (va .u32 kL)) rfl (by rfl) (by go_simp) ?_
   refine aY 33 (.agg (va .u32 hL)) rfl (by rfl) (by go_simp) ?_
   simp only [Ls]
   refine dD 4 (.pointer (some ⟨w10.heap.size,0,none⟩)) (w10.alloc (.cells (va .u32 (List.replicate 64 0)) 243)) rfl (by rfl) (oO 243 rfl _ (bCM _)) ?_
   simp only [Ls]
   have lp2_p4:=hp2.lt
   have nA5_p4:=hA5.new_off
   have lw_p4:=bI hB0 hW.size
   have hp4:=aC.new w10 243 (va .u32 (List.replicate 64 0))
   replace hp2:=hp2.alloc (.cells (va .u32 (List.replicate 64 0)) 243)
   replace hA5:=hA5.alloc (.cells (va .u32 (List.replicate 64 0)) 243)
   replace hW:=lQ hW hB0 (.cells (va .u32 (List.replicate 64 0)) 243)
   generalize w10.alloc (.cells (va .u32 (List.replicate 64 0)) 243)=w11 at *
   generalize w10.heap.size=p4 at hp4 lw_p4 lp2_p4 nA5_p4 ⊢
   refine dD 5 (.pointer (some ⟨w11.heap.size,0,none⟩)) (w11.alloc (.cells (va .u32 (List.replicate 8 0)) 71)) rfl (by rfl) (oO 71 rfl _ (aQr _)) ?_
   simp only [Ls]
   have lp2_p5:=hp2.lt
   have nA5_p5:=hA5.new_off
   have lp4_p5:=hp4.lt
   have lw_p5:=bI hB0 hW.size
   have hp5:=aC.new w11 71 (va .u32 (List.replicate 8 0))
   replace hp2:=hp2.alloc (.cells (va .u32 (List.replicate 8 0)) 71)
   replace hA5:=hA5.alloc (.cells (va .u32 (List.replicate 8 0)) 71)
   have bx:=sE w11 (.cells (va .u32 (List.replicate 8 0)) 71)
   replace hp4:=gO hp4 bx
   replace hW:=kQ hW hB0 bx
   clear bx
   generalize w11.alloc (.cells (va .u32 (List.replicate 8 0)) 71)=w12 at *
   generalize w11.heap.size=p5 at hp5 lw_p5 lp2_p5 nA5_p5 lp4_p5 ⊢
   refine oG (w12.setRow p4 (va .u32 kL)) rfl (by rfl) (qG 243 (.tmp 4) (.tmp 32) rfl p4 rfl (va .u32 kL) rfl 243 (va .u32 (List.replicate 64 0)) hp4 (uR (aDn _ (lR)) (aDn _ sM)) (aDn _ sM) (vZ .u32 _)) ?_
   replace hp2:=hp2.rowFar (show p4≠p2 from (by omega)) (va .u32 kL)
   replace hA5:=hA5.rowFar nA5_p4 (va .u32 kL)
   replace hp5:=hp5.rowFar (show p4≠p5 from (by omega)) (va .u32 kL)
   replace hp4:=hp4.row (va .u32 kL)
   replace hW:=eJ hW lw_p4 (va .u32 kL)
   generalize w12.setRow p4 (va .u32 kL)=w13 at *
   refine oG (w13.setRow p5 (va .u32 hL)) rfl (by rfl) (qG 71 (.tmp 5) (.tmp 33) rfl p5 rfl (va .u32 hL) rfl 71 (va .u32 (List.replicate 8 0)) hp5 (uR (vP _ (lR)) (vP _ oM)) (vP _ oM) (vZ .u32 _)) ?_
   replace hp2:=hp2.rowFar (show p5≠p2 from (by omega)) (va .u32 hL)
   replace hA5:=hA5.rowFar nA5_p5 (va .u32 hL)
   replace hp4:=hp4.rowFar (show p5≠p4 from (by omega)) (va .u32 hL)
   replace hp5:=hp5.row (va .u32 hL)
   replace hW:=eJ hW lw_p5 (va .u32 hL)
   generalize w13.setRow p5 (va .u32 hL)=w14 at *
   refine dA ?_
   clear hp4
   go_upto_region 6 with fail
   refine c9 ?_
   refine aY 6 (.int .i64 0) rfl (by rfl) (by go_simp) ?_
   simp only [Ls]
   refine dA ?_
   have hb1:0<b:=by omega
   rcases hA5.form with ⟨_,h0,_⟩|⟨ga,rfl,hga,hgl⟩
   ·omega
   have hcap:=hA5.cap
   have nga_p5:=nA5_p5
   go_wp2
   go_loopw [6] (λs wr=>∃(j:Nat),j≤b∧s=.int .i64 ((64*j:Nat):Int)∧cA wr B0 (some ⟨ga,0,none⟩) (64*b) cA5 (cV l)∧aC wr p5 71 (va .u32 (hs (cV l) j))∧aC wr p2 32 (va .u8 (List.replicate 32 0))∧Below B0 w wr) (λs _=>64*b-(intOf s).toNat)
   case atStart=>exact ⟨0,by omega,rfl,hA5,hp5,hp2,hW⟩
   case round =>
    clear hA5 hp5 hp2 hW
    obtain ⟨j,hj,rfl,hA5,hp5,hp2,hW⟩:=hrel
    obtain ⟨oo,hoo⟩:∃oo,64*j=oo:=⟨_,rfl⟩
    rw [hoo]
    have hooq:=Lib.hid hoo
    by_cases hlt:j<b
    ·
     have hltI:(oo:Int)<((64*b:Nat):Int):=by omega
     have ho0:0≤(oo:Int):=by omega
     have hob:oo+64≤64*b:=by omega
     have ho1:(oo:Int)≤(oo:Int)+64:=by omega
     have ho2:(oo:Int)+64≤(cA5:Int):=by omega
     have ho3:¬ cA5=oo:=by omega
     have ho4:((oo:Int)+64).toNat=oo+64:=by omega
     have ho5:oo+64-oo=64:=by omega
     have ho6:IntKind.i64.wrap ((oo:Int)+64)=(oo:Int)+64:=IntWalk.i64_in _ (by omega)
     have hrd:=Lib.hid (hA5.readsAt oo 64 (by omega))
     clear hoo
     go_upto_region 9 with fail
     replace hp5:=hp5.drew
     refine wp_region_held_drew (S:=λwr=>aC wr p2 32 (va .u8 (List.replicate 32 0))∧cA wr B0 (some ⟨ga,0,none⟩) (64*b) cA5 (cV l)∧Below B0 w wr) (by kernel_rfl) ⟨hp2.drew,hA5.drew_,jV hW 1⟩ (λhH=>?_)
     clear hp2 hA5 hW
     obtain ⟨hp2,hA5,hW⟩:=hH
     generalize wr.drew=w15 at *
     refine iX 7 1 41 (.slice (some ⟨ga,0,none⟩) (64*b) cA5) rfl rfl (by kernel_rfl) (by kernel_rfl) (by kernel_rfl) (λ_ _ _ h=>h) (Or.inl ⟨by rfl,λw _=>by go_simp⟩) ⟨hp2,hA5,hW⟩ ?_
     simp only [Ls]
     refine iX 6 2 42 (.int .i64 (oo:Int)) rfl rfl (by kernel_rfl) (by kernel_rfl) (by kernel_rfl) (λ_ _ _ h=>h) (Or.inl ⟨by rfl,λw _=>by go_simp⟩) ⟨hp2,hA5,hW⟩ ?_
     simp only [Ls]
     refine iX 5 3 43 (.int .i64 (oo:Int)) rfl rfl (by kernel_rfl) (by kernel_rfl) (by kernel_rfl) (λ_ _ _ h=>h) (Or.inl ⟨by rfl,λw _=>by go_simp⟩) ⟨hp2,hA5,hW⟩ ?_
     simp only [Ls]
     refine iX 4 4 44 (.int .i64 ((oo:Int)+64)) rfl rfl (by kernel_rfl) (by kernel_rfl) (by kernel_rfl) (λ_ _ _ h=>h) (Or.inl ⟨by rfl,λw _=>by go_simp⟩) ⟨hp2,hA5,hW⟩ ?_
     simp only [Ls]
     refine iX 3 5 45 (.slice (some ⟨ga,oo,none⟩) 64 (cA5-oo)) rfl rfl (by kernel_rfl) (by kernel_rfl) (by kernel_rfl) (λ_ _ _ h=>h) (Or.inl ⟨by rfl,λw _=>by go_simp⟩) ⟨hp2,hA5,hW⟩ ?_
     simp only [Ls]
     refine wpAnyH_ready (by kernel_rfl) (by simp) (aP8 2 0 40 (.agg (va .u32 (hs (cV l) j))) w15 rfl rfl (by rfl) (N4 71 (.tmp 5) rfl p5 rfl 71 (va .u32 (hs (cV l) j)) _ hp5 (by exact Tryz.underlying71) rfl (vP _ (hs_len _ _))) ⟨hp2,hA5,hW⟩ (λ_=>?_) AllReadyH.nil)
     simp only [Ls]
     refine wpAnyH_ready (by kernel_rfl) (by simp) (a41 1 6 46 rfl rfl (by rfl) (λK hK=>uU 233 #[.agg (va .u32 (hs (cV l) j)),.slice (some ⟨ga,oo,none⟩) 64 (cA5-oo)] (by go_simp) (aTo (hs (cV l) j) (((cV l).drop oo).take 64) ga oo (cA5-oo) _ (hs_len _ _) (aDL _ _) (((bD8 _ hl).drop _).take _) (by omega) _ (hA5.readsAt oo 64 (by omega)) (aS _)) ?_) AllReadyH.nil)
     rintro e w16 ⟨rfl,bx⟩
     replace hp2:=gO hp2 bx
     replace hp5:=gO hp5 bx
     replace hA5:=hA5.below bx
     replace hW:=kQ hW hB0 bx
     clear bx
     refine ⟨_,rfl,hK.out _ _ ⟨hp2,hA5,hW⟩ (λ_=>?_)⟩
     clear hK K
     simp only [Ls]
     refine wpAnyH_ready (by kernel_rfl) (by simp) (aMU 0 7 (w16.setRow p5 (va .u32 (comp (hs (cV l) j) (((cV l).drop oo).take 64)))) rfl rfl (by rfl) (qG 71 (.tmp 5) (.tmp 46) rfl p5 rfl (va .u32 (comp (hs (cV l) j) (((cV l).drop oo).take 64))) rfl 71 (va .u32 (hs (cV l) j)) hp5 (uR (vP _ (hs_len _ _)) (vP _ (W0 _ _))) (vP _ (W0 _ _)) (vZ .u32 _)) ⟨hp2.rowFar (show p5≠p2 from (by omega)) _,hA5.rowFar nA5_p5 _,eJ hW lw_p5 _⟩ (λ_=>?_) AllReadyH.nil)
     replace hp2:=hp2.rowFar (show p5≠p2 from (by omega)) (va .u32 (comp (hs (cV l) j) (((cV l).drop oo).take 64)))
     replace hA5:=hA5.rowFar nA5_p5 (va .u32 (comp (hs (cV l) j) (((cV l).drop oo).take 64)))
     replace hp5:=hp5.row (va .u32 (comp (hs (cV l) j) (((cV l).drop oo).take 64)))
     replace hW:=eJ hW lw_p5 (va .u32 (comp (hs (cV l) j) (((cV l).drop oo).take 64)))
     generalize w16.setRow p5 (va .u32 (comp (hs (cV l) j) (((cV l).drop oo).take 64)))=w17 at *
     refine wpAnyH_done (by kernel_rfl) ?_ _
     go_wp2
     have hstep:comp (hs (cV l) j) (((cV l).drop oo).take 64)=hs (cV l) (j+1):=by rw [<-hooq.out];rfl
     rw [hstep] at hp5
     have hwr:IntKind.i64.wrap ((oo:Int)+64)=((64*(j+1):Nat):Int):=by rw [ho6];have:=hooq.out;omega
     go_roundw
     case rel=>exact ⟨j+1,by omega,by go_num,hA5,hp5,hp2,hW⟩
     case measure=>simp [intOf];omega
    ·
     obtain rfl:j=b:=by omega
     have hltI:¬ (oo:Int)<((64*j:Nat):Int):=by omega
     have hH8:=hs_len (cV l) j
     have hHw:=aDL (cV l) j
     generalize hs (cV l) j=H at *
     clear hA5 hga hcap
     go_upto_region 10 with fail
     refine c9 ?_
     refine dD 7 (.pointer (some ⟨wr.heap.size,0,none⟩)) (wr.alloc (.cells (va .u8 (List.replicate 32 0)) 32)) rfl (by rfl) (oO 32 rfl _ (J2 _)) ?_
     simp only [Ls]
     have lp2_p7:=hp2.lt
     have lp5_p7:=hp5.lt
     have lw_p7:=bI hB0 hW.size
     have hp7:=aC.new wr 32 (va .u8 (List.replicate 32 0))
     have bx:=sE wr (.cells (va .u8 (List.replicate 32 0)) 32)
     replace hp2:=gO hp2 bx
     replace hp5:=gO hp5 bx
     replace hW:=kQ hW hB0 bx
     clear bx
     generalize wr.alloc (.cells (va .u8 (List.replicate 32 0)) 32)=w18 at *
     generalize wr.heap.size=p7 at hp7 lw_p7 lp2_p7 lp5_p7 ⊢
     refine dA ?_
     rw [<-a8U H] at hp7
     go_wp2
     go_loopw [8,9,10] (λs x t wr=>∃i:Nat,i≤8∧s=.int .i64 (i:Int)∧aC wr p7 32 (va .u8 (lP H (4*i)))∧aC wr p5 71 (va .u32 H)∧aC wr p2 32 (va .u8 (List.replicate 32 0))∧Below B0 w wr) (λs _ _ _=>8-(intOf s).toNat)
     case atStart=>exact ⟨0,by omega,rfl,hp7,hp5,hp2,hW⟩
     case round =>
      clear hp7 hp5 hp2 hW
      obtain ⟨i,hi,rfl,hp7,hp5,hp2,hW⟩:=hrel
      by_cases hlt:i<8
      ·
       have hltI:(i:Int)<8:=by omega
       have hv:=hHw i
       obtain ⟨v,hve⟩:∃v,H.getD i 0=v:=⟨_,rfl⟩
       rw [hve] at hv
       have hvq:=Lib.hid hve
       clear hve
       go_upto_region 14 with fail
       refine c9 ?_
       refine aY 51 (.int .i64 (i:Int)) rfl (by rfl) (by go_simp) ?_
       refine aY 52 (.pointer (some ⟨p5,i,none⟩)) rfl (by rfl) (by go_simp) ?_
       refine aY 53 (.int .u32 ((v:Nat):Int)) rfl (by rfl) (mC 57 (.tmp 52) rfl p5 i rfl (.int .u32 ((v:Nat):Int)) _ Tryz.underlying57 rfl (by rw [<-hvq.out];exact hp5.num (by rw [hH8];exact hlt))) ?_
       simp only [Ls]
       refine xK 54 rfl (by rfl) (λK hK=>uU 178 #[.int .u32 ((v:Nat):Int)] (by go_simp) (aLl v hv _) ?_)
       rintro e w19 ⟨g,rfl,hg,hgg,bx⟩
       have lp2_g:p2<g:=eQ hp2.lt hgg
       have lp5_g:p5<g:=eQ hp5.lt hgg
       have lp7_g:p7<g:=eQ hp7.lt hgg
       have lw_g:B0≤g:=bI (bI hB0 hW.size) hgg
       replace hp2:=gO hp2 bx
       replace hp5:=gO hp5 bx
       replace hp7:=gO hp7 bx
       replace hW:=kQ hW hB0 bx
       clear hgg
       clear bx
       refine ⟨_,rfl,hK.out _ _ ?_⟩
       clear hK K
       refine aY 9 (.slice (some ⟨g,0,none⟩) 4 4) rfl (by rfl) (by go_simp) ?_
       simp only [Ls]
       refine dA ?_
       go_wp2
       go_loopw [10] (λt wr=>∃k:Nat,k≤4∧t=.int .i64 (k:Int)∧aC wr g 5 (va .u8 (beB v 4))∧aC wr p7 32 (va .u8 (lP H (4*i+k)))∧aC wr p5 71 (va .u32 H)∧aC wr p2 32 (va .u8 (List.replicate 32 0))∧Below B0 w wr) (λt _=>4-(intOf t).toNat)
       case atStart=>exact ⟨0,by omega,rfl,hg,hp7,hp5,hp2,hW⟩
       case round =>
        rename_i wq _ _
        clear hg hp7 hp5 hp2 hW
        obtain ⟨k,hk,rfl,hg,hp7,hp5,hp2,hW⟩:=hrel
        by_cases hlt4:k<4
        ·
         have hltK:(k:Int)<4:=by omega
         have hq0:4*i+k<32:=by omega
         have hst:=aRT H (4*i+k) hq0
         rw [aQ0 H i k hlt hlt4,hvq.out] at hst
         obtain ⟨q,hq⟩:∃q,4*i+k=q:=⟨_,rfl⟩
         rw [hq] at hst hp7 hq0
         have hqI:(q:Int)<32:=by omega
         have hq1:4*(i:Int)+(k:Int)=(q:Int):=by omega
         have ha1:IntKind.i64.wrap (4*(i:Int))=4*(i:Int):=IntWalk.i64_in _ (by omega)
         have ha2:IntKind.i64.wrap (q:Int)=(q:Int):=IntWalk.i64_in _ (by omega)
         obtain ⟨x,hx⟩:∃x,(beB v 4).getD k 0=x:=⟨_,rfl⟩
         rw [hx] at hst
         have hxq:=Lib.hid hx
         have hstq:=Lib.hid hst
         have hqq:=Lib.hid hq
         clear hx hst hq
         go_upto_region 18 with fail
         refine c9 ?_
         refine aY 59 (.int .i64 (i:Int)) rfl (by rfl) (by go_simp) ?_
         refine aY 60 (.int .i64 (4*(i:Int))) rfl (by rfl) (by go_simp) ?_
         refine aY 61 (.int .i64 (k:Int)) rfl (by rfl) (by go_simp) ?_
         refine aY 62 (.int .i64 (q:Int)) rfl (by rfl) (by go_simp) ?_
         refine aY 63 (.slice (some ⟨g,0,none⟩) 4 4) rfl (by rfl) (by go_simp) ?_
         refine aY 64 (.int .i64 (k:Int)) rfl (by rfl) (by go_simp) ?_
         refine aY 65 (.pointer (some ⟨g,k,none⟩)) rfl (by rfl) (by go_simp) ?_
         refine aY 66 (.int .u8 ((x:Nat):Int)) rfl (by rfl) (mC 5 (.tmp 65) rfl g k rfl (.int .u8 ((x:Nat):Int)) _ Tryz.underlying5 rfl (by rw [<-hxq.out];exact hg.num (by rw [beB_len];exact hlt4))) ?_
         refine aY 67 (.pointer (some ⟨p7,q,none⟩)) rfl (by rfl) (by go_simp) ?_
         simp only [Ls]
         refine oG (wr.setCell ⟨p7,q,none⟩ (.int .u8 ((x:Nat):Int))) rfl (by rfl) (W8 5 (.tmp 67) (.tmp 66) rfl p7 q rfl (.int .u8 ((x:Nat):Int)) rfl rfl rfl 32 (va .u8 (lP H q)) hp7 (by rw [b9,(tR _ _)];exact hq0) (by kernel_rfl)) ?_
         replace hp2:=hp2.far (p:=⟨p7,q,none⟩) (show p2≠p7 from (by omega)) (.int .u8 ((x:Nat):Int))
         replace hp5:=hp5.far (p:=⟨p7,q,none⟩) (show p5≠p7 from (by omega)) (.int .u8 ((x:Nat):Int))
         replace hg:=hg.far (p:=⟨p7,q,none⟩) (show g≠p7 from (by omega)) (.int .u8 ((x:Nat):Int))
         replace hp7:aC (wr.setCell ⟨p7,q,none⟩ (.int .u8 ((x:Nat):Int))) p7 32 (va .u8 (lP H (q+1))):=by rw [<-hstq.out];exact hp7.setNum q (x)
         replace hW:=hW.setCell (p:=⟨p7,q,none⟩) lw_p7 (.int .u8 ((x:Nat):Int))
         generalize wr.setCell ⟨p7,q,none⟩ (.int .u8 ((x:Nat):Int))=w20 at *
         refine dA ?_
         go_wp2
         go_roundw
         case rel=>exact ⟨k+1,by omega,by go_num,hg,by rw [show 4*i+(k+1)=q+1 by have:=hqq.out;omega];exact hp7,hp5,hp2,hW⟩
         case measure=>simp [intOf];omega
        ·
         obtain rfl:k=4:=by omega
         go_wp2
         go_roundw
         case rel=>exact ⟨i+1,by omega,by go_num,by rw [show 4*(i+1)=4*i+4 by omega];exact hp7,hp5,hp2,hW⟩
         case measure=>simp [intOf];omega
      ·
       obtain rfl:i=8:=by omega
       rw [show 4*8=32 by omega,aVB] at hp7
       go_upto_region 19 with fail
       refine c9 ?_
       refine aY 68 (.agg (va .u8 (flat H))) rfl (by rfl) (N4 32 (.tmp 7) rfl p7 rfl 32 (va .u8 (flat H)) _ hp7 (by exact Tryz.underlying32) rfl (mG _ (qC _))) ?_
       simp only [Ls]
       refine oG (wr.setRow p2 (va .u8 (flat H))) rfl (by rfl) (qG 32 (.tmp 2) (.tmp 68) rfl p2 rfl (va .u8 (flat H)) rfl 32 (va .u8 (List.replicate 32 0)) hp2 (uR (mG _ (lR)) (mG _ (qC _))) (mG _ (qC _)) (vZ .u8 _)) ?_
       replace hp5:=hp5.rowFar (show p2≠p5 from (by omega)) (va .u8 (flat H))
       replace hp7:=hp7.rowFar (show p2≠p7 from (by omega)) (va .u8 (flat H))
       replace hp2:=hp2.row (va .u8 (flat H))
       replace hW:=eJ hW lw_p2 (va .u8 (flat H))
       generalize wr.setRow p2 (va .u8 (flat H))=w21 at *
       refine dA ?_
       go_wp2_with fail
       exact bodyPost_ret (results_cell_row rfl _ _ p2 32 (va .u8 (flat H)) (0,0) _ rfl hp2 (by exact Tryz.underlying32) rfl (mG _ (qC _))) rfl ⟨by rw [hshaq.out],hW⟩
end Go.Proofs.YtjboelhcieepkaaGreatDoor
namespace Go.Proofs.YtjboelhcieepkaaGreatDoor
open Go.RowKit
def aAS(f:List Nat->Nat->Option SV):bV:=λargs hp nx=>match args with
 |[x]=>(match zA hp x with
  |some (b,l)=>(match f b l with
   |some y=>some (y,⟨⟨.e,0⟩,hp,nx⟩)
   |none=>none)
  |none=>none)
 |_=>none
theorem aPT{X:aI}{g:FuncId}{f:List Nat->Nat->Option SV}(he:fQ X.P g)
 (h:∀b l y,f b l=some y->∀A c w r,bH w w.heap.size 1 A l (nv .u8 b)->l≤c->Sh.Byt b->b.length=l->cG X w->Calls X.P g #[.slice A l c] w λe w'=>∃u,e=.returned u∧aP r y u∧Below w.heap.size w w'):bN X g (aAS f):=by
 intro args hp nx res st hl E r vals w hE ha hm
 subst hE
 unfold aAS at hl
 split at hl
 ·split at hl
  ·rename_i b l hb
   split at hl
   ·rename_i y hy
    cases hl
    cases ha with|cons d t =>
     cases t
     obtain ⟨A,c,rfl,h1,h2,h3,h4⟩:=Y4 hm hb d
     exact ⟨λw'=>he _ w',(h b l _ hy A c w r h2 h1 h3 h4 hm.globs).mono λe w' ⟨u,h1,h2,h3⟩=>⟨[],u,h1,by simpa using h2,by simpa using hm.grow h3⟩⟩
   ·cases hl
  ·cases hl
 ·cases hl
def pQ(f:List SV->Option (TypeId×Rp SV×Nat)):bV:=λargs hp nx=>match f args with
 |some (T,cs,l)=>some (.w nx l,⟨⟨.e,0⟩,hp.put nx ⟨T,cs,1⟩,nx+1⟩)
 |none=>none
theorem aHf{X:aI}{g:FuncId}{f:List SV->Option (TypeId×Rp SV×Nat)}(he:fQ X.P g)
 (h:∀args T cs l,f args=some (T,cs,l)->∀r vals w,aX r args vals->cG X w->∃us,aD r cs us∧0<l∧0<X.P.cellsOf T∧Calls X.P g vals.toArray w λe w'=>∃v,e=.returned v∧w'.ownsRow w.heap.size T (X.P.cellsOf T) v l us∧Below w.heap.size w w'):bN X g (pQ f):=by
 intro args hp nx res st hl E r vals w hE ha hm
 subst hE
 unfold pQ at hl
 split at hl
 ·rename_i T cs l hf
  cases hl
  obtain ⟨us,hd,hl0,hc0,hc⟩:=h _ _ _ _ hf r vals w ha hm.globs
  refine ⟨λw'=>he _ w',hc.mono ?_⟩
  rintro e w' ⟨v,rfl,⟨hlen,h1⟩,hb⟩
  rcases h1 with ⟨_,h0⟩|⟨p,cap,cur,rfl,hp1,hh,hlc,hcm,hsz,htk⟩
  ·omega
  ·refine ⟨[⟨p,0,cap,none,λ_=>False⟩],_,rfl,aP.w (L:=⟨p,0,cap,none,λ_=>False⟩) (by rw [<-hm.len];simp) hlc,hm.add1 hb ⟨p,0,cap,none,λ_=>False⟩ ⟨T,cs,1⟩ hp1 ⟨us,hd.mono _,.inr (.inl ⟨rfl,bI hm.below.size hp1,rfl,cur.toList.drop (l*E.X.P.cellsOf T),?_,hc0,?_,hcm⟩)⟩ (.inl (by show 1<2;decide))⟩
   ·show aC w' p T (us++cur.toList.drop _).toArray
    rw [<-htk,List.take_append_drop]
    exact hh
   ·rw [hlen,List.length_drop,lC,hsz]
    have:=Nat.mul_le_mul_right (E.X.P.cellsOf T) hlc
    show l*E.X.P.cellsOf T+(cap*E.X.P.cellsOf T-l*E.X.P.cellsOf T)=cap*E.X.P.cellsOf T
    omega
 ·cases hl
def zP(H:Hk)(X:aI)(n:Nat)(g:FuncId)(args:List SV):Option (TypeId×List (Rp SV)×Nat):=match eP H X n g args .e 0 with
 |some (.w m l,st)=>(match st.hp.get m with
  |some ⟨T,cs,1⟩=>some (T,iA cs [],l)
  |_=>none)
 |_=>none
theorem aO0{X:aI}{H:Hk}{n:Nat}{g:FuncId}{args:List SV}{vals:List Value}{w:World}{T:TypeId}{ps:List (Rp SV)}{us:List Value}{l:Nat}(aH:X.P.follows .mixedOrders=true)(hH:bZ X H)(h:zP H X n g args=some (T,ps,l))
 (hp:∀r vs,cE r ps vs->vs=us) (hl:us.length=l*X.P.cellsOf T) (ha:aX [] args vals) (hg:cG X w):Calls X.P g vals.toArray w λe w'=>∃v,e=.returned v∧w'.ownsRow w.heap.size T (X.P.cellsOf T) v l us∧Below w.heap.size w w':=by
 unfold zP at h
 split at h
 ·rename_i m l' st hc
  split at h
  ·rename_i T' cs hb
   cases h
   refine (u5 aH hH hc ha hg).mono λe w' ⟨r,v,he,hd,hm⟩=>?_
   obtain ⟨L,hL,vs,hdc,hk⟩:=hm.blk m _ hb
   rcases hk with ⟨h0,_⟩|⟨_,hge,hb0,rest,hblk,hc0,hsz,hmax⟩|⟨h2,_⟩
   ·cases h0
   ·cases hd with
    |w hL' hlc =>
     rw [hL] at hL';cases hL'
     obtain rfl:=hp r vs (hZ _ hdc)
     refine ⟨_,he,⟨hl,.inr ⟨L.g,L.c,_,by rw [hb0],hge,hblk,hlc,hmax,?_,?_⟩⟩,hm.below⟩
     ·show (vs++rest).toArray.size=L.c*X.P.cellsOf T
      rw [List.size_toArray,eS];exact hsz
     ·show List.take _ (vs++rest)=vs
      rw [<-hl,List.take_left']
      rfl
   ·exact absurd h2 (by show ¬ 2≤1;decide)
  ·cases h
 ·cases h
def aD5(b:List Nat)(l:Nat):Option SV:=bif Nat.blt l 1000000 then some (.a (.q (.sha b))) else none
theorem aYK:bN Xt 176 (aAS aD5):=aPT (bB (by kernel_rfl)) λb l y hf A c w r hr hlc hb hlen hg=>by
 unfold aD5 at hf
 cases hq:Nat.blt l 1000000 with
 |false=>rw [hq] at hf;cases hf
 |true =>
  rw [hq] at hf;cases hf
  rw [bO,bR] at hq
  refine (aAR b A l c _ hb hq w hr (aS _)).mono ?_
  rintro e w' ⟨rfl,h2⟩
  refine ⟨_,rfl,?_,h2⟩
  have e:va .u8 (Sh.sha b)=(At.sha b).vals.toArray:=by show _=(nv .u8 (Sh.shaF b)).toArray;rw [Sh.shaF_eq];rfl
  rw [e]
  exact .a (.q _)
def aCK(args:List SV):Option (TypeId×Rp SV×Nat):=match args with
 |[.a (.q (.nnc x))]=>some (5,.q (.nncB x),12)
 |[.a (.node _ _ (.one (.v (.int .u32 (.ofNat 0)))) (.one (.v (.int .u64 (.ofNat 0)))))]=>some (5,.q (.nncB dG),12)
 |_=>none
theorem zJ:Xt.P.cellsOf 5=1:=by kernel_rfl
theorem aWx:bN Xt 179 (pQ aCK):=aHf (bB (by kernel_rfl)) λargs T cs l hf r vals w hd hg=>by
 have key:∀x:aA,∃us,aD r (.q (.nncB x)) us∧0<12∧0<Xt.P.cellsOf 5∧Calls Xt.P 179 #[.agg x.nnc.toArray] w λe w'=>∃v,e=.returned v∧w'.ownsRow w.heap.size 5 (Xt.P.cellsOf 5) v 12 us∧Below w.heap.size w w':=λx =>
  ⟨_,.q _,by decide,by rw [zJ];decide,by rw [zJ];exact aIs x.sh x.c x.hsh x.hc w⟩
 unfold aCK at hf
 split at hf
 ·rename_i x
  cases hf
  cases hd with
  |cons d t =>
   cases t
   cases d with
   |a d=>cases d;exact key x
 ·cases hf
  cases hd with
  |cons d t =>
   cases t
   cases d with
   |a d=>cases d with
    |node d1 d2 _ _ =>
     rw [bQ d1,bQ d2]
     exact key dG
 ·cases hf
def aBG:List (FuncId×bV):=[(176,aAS aD5),(179,pQ aCK)]
theorem aNC:∀p∈aBG,bN Xt p.1 p.2:=by
 intro p hp
 simp only [aBG,bG,cK,or_false] at hp
 rcases hp with rfl|rfl
 ·exact aYK
 ·exact aWx
def HR1:Hk:=cZ Xt (cT aBG) 14 6
theorem aNP:bZ Xt HR1:=eH aH aNC 6
theorem aUT(x:aA):zP HR1 Xt 12 104 [.a (.q (.rcd x))]=some (5,[.one (.v (.int .u8 (x.s:Int))),.q (.nncB x),.q (.tag x)],45):=by kernel_rfl
theorem a26(x:aJ):zP HR1 Xt 12 105 [.a (.q (.ent x))]=some (5,[.one (.v (.int .u8 (x.s:Int))),.q (.dig x)],33):=by kernel_rfl
def zO{α:Type}(p:Rp SV->Option α)(b:α->At)(args:List SV):Option (TypeId×Rp SV×Nat):=match args with
 |[.a c]=>(match p c with
  |some x=>some (5,.q (b x),(b x).size)
  |none=>none)
 |_=>none
theorem aFr{α:Type}{p:Rp SV->Option α}{b q:α->At}{ps:α->List (Rp SV)}{g:FuncId}{H:Hk}{n:Nat}(hH:bZ Xt H)(he:fQ Xt.P g)(hp:∀c x,p c=some x->∀(r:List aF) us,aD r c us->us=(q x).vals)
 (h0:∀x,0<(b x).size) (hps:∀x (r:List aF) vs,cE r (ps x) vs->vs=(b x).vals) (hc:∀x,zP H Xt n g [.a (.q (q x))]=some (5,ps x,(b x).size)):bN Xt g (pQ (zO p b)):=aHf he λargs T cs l hf r vals w hd hg=>by
 unfold zO at hf
 split at hf
 ·split at hf
  ·rename_i c x hx
   cases hf
   obtain ⟨us,rfl,d⟩:=vI hd
   obtain rfl:=hp _ _ hx r us d
   exact ⟨_,.q _,h0 x,by rw [zJ];decide,aO0 (vals:=[.agg (q x).vals.toArray]) aH hH (hc x) (hps x) (by rw [zJ,Nat.mul_one];exact At.len _) (.cons (.a (.q _)) .nil) hg⟩
  ·cases hf
 ·cases hf
theorem aUJ{r:List aF}{x:aA}{us:List Value}(h:cE r [.one (.v (.int .u8 (x.s:Int))),.q (.nncB x),.q (.tag x)] us):us=(At.rcdB x).vals:=by
 cases h with
 |cons h1 h=>cases h with
  |cons h2 h=>cases h with
   |cons h3 h=>cases h;cases h2;cases h3;rw [bQ h1];simp [At.vals,aA.bytes,nv]
theorem aW9{r:List aF}{x:aJ}{us:List Value}(h:cE r [.one (.v (.int .u8 (x.s:Int))),.q (.dig x)] us):us=(At.entB x).vals:=by
 cases h with
 |cons h1 h=>cases h with
  |cons h2 h=>cases h;cases h2;rw [bQ h1];simp [At.vals,aJ.bytes,nv]
def aDT:List (FuncId×bV):=[(104,pQ (zO gT .rcdB)),(105,pQ (zO gP .entB))]++aBG
theorem aLf:∀p∈aDT,bN Xt p.1 p.2:=by
 intro p hp
 rcases eL.1 hp with hp|hp
 ·simp only [bG,cK,or_false] at hp
  rcases hp with rfl|rfl
  ·exact aFr (q:=.rcd) aNP (bB (by kernel_rfl)) (λc x h r us d=>aAT h d) (λ_=>by show 0<45;decide) (λ_ _ _ h=>aUJ h) aUT
  ·exact aFr (q:=.ent) aNP (bB (by kernel_rfl)) (λc x h r us d=>aAY h d) (λ_=>by show 0<33;decide) (λ_ _ _ h=>aW9 h) a26
 ·exact aNC p hp
def HR2:Hk:=cZ Xt (cT aDT) 14 6
theorem bC3:bZ Xt HR2:=eH aH aLf 6
theorem a4B(x:bD):zP HR2 Xt 12 39 [.a (.q (.node x))]=some (5,nbP x,(At.nodeB x).size):=by
 cases x with
 |leaf ix a b c d h =>
  rcases ix with _|_|_|_|_|_|_|_|ix
  iterate 8 kernel_rfl
  omega
 |inner lv ix a b c d hl h =>
  rcases lv with _|_|_|lv
  ·omega
  ·rcases ix with _|_|_|_|_|_|_|_|ix
   iterate 8 kernel_rfl
   omega
  ·rcases ix with _|_|_|_|_|_|_|_|ix
   iterate 8 kernel_rfl
   omega
  ·omega
theorem aYL:bN Xt 39 (pQ (zO nG .nodeB)) :=
 aFr (q:=.node) bC3 (bB (by kernel_rfl)) (λc x h r us d=>wO h d) (λx=>by cases x<;>(first|(show 0<185;decide)|(show 0<137;decide))) (λ_ _ _ h=>aIK h) a4B
def aG3:List (FuncId×bV):=(39,pQ (zO nG .nodeB))::aDT
theorem aJZ:∀p∈aG3,bN Xt p.1 p.2:=by
 intro p hp
 rcases bG.1 hp with rfl|hp
 ·exact aYL
 ·exact aLf p hp
def HR3:Hk:=cZ Xt (cT aG3) 14 6
theorem a7L:bZ Xt HR3:=eH aH aJZ 6
theorem aSv(x:bD):jJ HR3 Xt 12 107 [.a (.q (.node x))] .e 0=some (.agg (At.sha x.bytes).vals.toArray):=by
 cases x with
 |leaf ix a b c d h=>kernel_rfl
 |inner lv ix a b c d hl h=>kernel_rfl
theorem a7i:bN Xt 107 (cU (r9 nG λx=>.a (.q (.sha x.bytes)))) :=
 O3 (q:=.node) (u:=λx=>.agg (At.sha x.bytes).vals.toArray) a7L (bB (by kernel_rfl)) (λc x h r us d=>wO h d) (λx r=>.a (.q _)) aSv
def aMt:List (FuncId×bV):=(107,cU (r9 nG λx=>.a (.q (.sha x.bytes))))::aG3
theorem aX9:∀p∈aMt,bN Xt p.1 p.2:=by
 intro p hp
 rcases bG.1 hp with rfl|hp
 ·exact a7i
 ·exact aJZ p hp
def t6(f:List Nat->Nat)(l:List Nat):SV:=aM (f l)
def u1(f:List Nat->Nat)(l:List Nat):Value:=.int .i64 (f l:Int)
theorem yB(f:List Nat->Nat)(l:List Nat)(r:List aF):aP r (t6 f l) (u1 f l):=.v _
def num(n lv ix:Nat):Nat:=(if lv=0 then 0 else if lv=1 then aL n 0 else aL n 0+aL n 1)+ix
theorem wV{H:Hk}(hH:bZ Xt H){g:FuncId}{dom:Nat->List (List Nat)}{val:List Nat->SV}{u:List Nat->Value}(he:fQ Xt.P g)(hu:∀l (r:List aF),aP r (val l) (u l))
 (hc:(uM dom).map (λl=>jJ H Xt 12 g (l.map aM) .e 0)=(uM dom).map (λl=>some (u l))):bN Xt g (cU (kG dom val)):=jY he λargs y hf r vals w hd hg=>by
 unfold kG at hf
 split at hf
 ·rename_i n l hn
  cases hq:Nat.ble 1 n&&(Nat.ble n 20&&(dom n).contains l) with
  |false=>rw [hq] at hf;cases hf
  |true =>
   rw [hq] at hf;cases hf
   simp only [bJ,cY,bR] at hq
   obtain ⟨h1,h2,h3⟩:=hq
   have hm:(n::l)∈uM dom:=by
    simp only [uM,List.mem_flatMap,dF,dC]
    exact ⟨n-1,by omega,l,by rw [show n-1+1=n by omega];simpa using h3,by rw [show n-1+1=n by omega]⟩
   rw [aHn hn hd]
   exact (M3 aH hH (cW hc hm) (aHA _) hg).mono λe w' ⟨e1,e2⟩=>⟨_,e1,hu _ r,e2⟩
 ·cases hf
def HB0:Hk:=cZ Xt (cT []) 14 6
theorem aJc:bZ Xt HB0:=eH aH (λp h=>by simp at h) 6
def aFS:bV:=cU (kG aKV (t6 λl=>aL (mF l) (tT l)))
theorem aNq:bN Xt 37 aFS:=wV aJc (bB (by kernel_rfl)) (yB _) (by kernel_rfl)
def aFX:List (FuncId×bV):=[(37,aFS)]
theorem aYp:∀p∈aFX,bN Xt p.1 p.2:=by
 intro p hp
 simp only [aFX,bG,cK,or_false] at hp
 subst hp
 exact aNq
def HS1:Hk:=cZ Xt (cT aFX) 14 6
theorem G0:bZ Xt HS1:=eH aH aYp 6
def aMX:bV:=cU (kG C5 (t6 λl=>aO (mF l)))
def aLu:bV:=cU (kG C5 (t6 λl=>aT (mF l)))
def aNh:bV:=cU (kG aEO (t6 λl=>num (mF l) (tT l) (F2 l)))
def aIq:bV:=cU (kG aEO (t6 λl=>cS (mF l) (tT l) (F2 l)))
def aN4:bV:=cU (kG aH9 (t6 λl=>jE (mF l) (tT l)+(2*F2 l+at3 l)))
theorem aRN:bN Xt 36 aMX:=wV G0 (bB (by kernel_rfl)) (yB _) (by kernel_rfl)
theorem a5b:bN Xt 35 aLu:=wV G0 (bB (by kernel_rfl)) (yB _) (by kernel_rfl)
theorem bDK:bN Xt 42 aNh:=wV G0 (bB (by kernel_rfl)) (yB _) (by kernel_rfl)
theorem aQ5:bN Xt 106 aIq:=wV G0 (bB (by kernel_rfl)) (yB _) (by kernel_rfl)
theorem bCU:bN Xt 41 aN4:=wV G0 (bB (by kernel_rfl)) (yB _) (by kernel_rfl)
def aMZ:bV:=cU (kG C5 (t6 λl=>2*(mF l)+2*aT (mF l)))
theorem bCG:bN Xt 30 aMZ:=wV G0 (bB (by kernel_rfl)) (yB _) (by kernel_rfl)
def aIF:List (FuncId×bV):=[(37,aFS),(36,aMX),(35,aLu),(42,aNh),(106,aIq),(41,aN4),(30,aMZ)]++aMt
theorem a5U:∀p∈aIF,bN Xt p.1 p.2:=by
 intro p hp
 rcases eL.1 hp with hp|hp
 ·simp only [bG,cK,or_false] at hp
  rcases hp with rfl|rfl|rfl|rfl|rfl|rfl|rfl
  ·exact aNq
  ·exact aRN
  ·exact a5b
  ·exact bDK
  ·exact aQ5
  ·exact bCU
  ·exact bCG
 ·exact aX9 p hp
def gM(hp:Tr):Prop:=∀n b,hp.get n=some b->b.k=2
theorem gM.start:gM .e:=λn b h=>by rw [bC.get_e] at h;cases h
theorem gM.put{hp:Tr}(h:gM hp)(n T:Nat)(cs:Rp SV):gM (hp.put n ⟨T,cs,2⟩):=by
 intro m b hb
 rw [bC.get_put] at hb
 by_cases e:m=n
 ·rw [if_pos e] at hb;cases hb;rfl
 ·rw [if_neg e] at hb;exact h m b hb
theorem aG.addF{E:bX}{r:List aF}{hp:Tr}{nx:Nat}{w:World}(h:aG E r hp nx w)(ha:gM hp)(L:aF)(T:TypeId)(cs:Rp SV)(vs:List Value)(hd:aD (r++[L]) cs vs)(hlt:L.g<E.w0.heap.size)(hle:E.w0.heap.size≤w.heap.size)
 (hc:∀j v,vs[j]?=some v->w.cell? ⟨L.g,L.b+j,none⟩=some v):aG E (r++[L]) (hp.put nx ⟨T,cs,2⟩) (nx+1) w:=by
 have hn:∀{m:Nat} {b:HB},(hp.put nx ⟨T,cs,2⟩).get m=some b->(m=nx∧b=⟨T,cs,2⟩)∨(m≠nx∧hp.get m=some b):=by
  intro m b hb
  rw [bC.get_put] at hb
  by_cases e:m=nx
  ·rw [if_pos e] at hb;cases hb;exact .inl ⟨e,rfl⟩
  ·rw [if_neg e] at hb;exact .inr ⟨e,hb⟩
 have hnx:(r++[L])[nx]?=some L:=by rw [<-h.len];simp
 have old:∀{m:Nat} {b:HB} {M:aF},hp.get m=some b->(r++[L])[m]?=some M->r[m]?=some M:=by
  intro m b M hb hM
  obtain ⟨M',h1,_⟩:=h.blk m b hb
  rw [jK [L] h1] at hM
  cases hM
  exact h1
 refine ⟨by simp [h.len],λm b hb=>?_,λm m' b c M M' hb hc' hne hk=>?_,h.below,h.fz,λm b M hb hk hM k hcv=>?_,h.up,λm b M hb h2 h5 hM=>?_,h.rlt,h.glob⟩
 ·rcases hn hb with ⟨rfl,rfl⟩|⟨_,hb⟩
  ·exact ⟨L,hnx,vs,hd,.inr (.inr ⟨aS _,eQ hlt hle,hc,⟨λh=>(by cases h),λh=>(by cases h),λh=>absurd h (by show ¬ 5≤2;decide),λh=>(by cases h)⟩⟩)⟩
  ·obtain ⟨M,h1,h2⟩:=h.blk m b hb
   exact ⟨M,jK [L] h1,h2.move [L] (λk _=>rfl) (aS _)⟩
 ·exact absurd (ha.put nx T cs m b hb) hk
 ·have:=ha.put nx T cs m b hb
  omega
 ·rcases hn hb with ⟨rfl,rfl⟩|⟨_,hb⟩
  ·rw [hnx] at hM;cases hM;exact .inl hlt
  ·exact h.old m b M hb h2 h5 (old hb hM)
