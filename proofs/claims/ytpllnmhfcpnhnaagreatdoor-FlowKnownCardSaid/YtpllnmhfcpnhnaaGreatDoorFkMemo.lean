/- Calls told beforehand, each run by the kernel in a state that holds what its arguments reach; then the law. -/
import Derived.Test.YtpllnmhfcpnhnaaGreatDoorFkTab
import Derived.KernelRfl
set_option linter.unusedVariables false
set_option linter.unusedSimpArgs false
set_option linter.unusedSectionVars false
/- Calls told beforehand, each run by the kernel in a state that holds what its arguments reach; then the law. -/
namespace Go.V
open Go Go.V.Z
def memoPre : List Nat := [0, 1, 2, 3, 4, 5, 6, 7, 8, 9, 10]
def nones : Nat → List (Option AObj)
  | 0 => []
  | n + 1 => none :: nones n
def g0 : AObj := (D [(S 11 0 0 90 9 9 true 10)])
def g1 : AObj := (D [(i 16),(i 16)])
def g2 : AObj := (D [(.iface 419 (P 12 0 0 1))])
def g3 : AObj := (D [(.iface 419 (P 13 0 0 1))])
def g4 : AObj := (D [(.int .u64 1),(.int .u64 10),(.int .u64 100),(.int .u64 1000),(.int .u64 10000),(.int .u64 100000),(.int .u64 1000000),(.int .u64 10000000),(.int .u64 100000000),(.int .u64 1000000000),(.int .u64 10000000000),(.int .u64 100000000000),(.int .u64 1000000000000),(.int .u64 10000000000000),(.int .u64 100000000000000),(.int .u64 1000000000000000),(.int .u64 10000000000000000),(.int .u64 100000000000000000),(.int .u64 1000000000000000000),(.int .u64 10000000000000000000)])
def g5 : AObj := (D [(b 0),(b 1),(b 28),(b 2),(b 29),(b 14),(b 24),(b 3),(b 30),(b 22),(b 20),(b 15),(b 25),(b 17),(b 4),(b 8),(b 31),(b 27),(b 13),(b 23),(b 21),(b 19),(b 16),(b 7),(b 26),(b 12),(b 18),(b 6),(b 11),(b 5),(b 10),(b 9)])
def g6 : AObj := (D [(b 0),(b 1),(b 56),(b 2),(b 57),(b 49),(b 28),(b 3),(b 61),(b 58),(b 42),(b 50),(b 38),(b 29),(b 17),(b 4),(b 62),(b 47),(b 59),(b 36),(b 45),(b 43),(b 51),(b 22),(b 53),(b 39),(b 33),(b 30),(b 24),(b 18),(b 12),(b 5),(b 63),(b 55),(b 48),(b 27),(b 60),(b 41),(b 37),(b 16),(b 46),(b 35),(b 44),(b 21),(b 52),(b 32),(b 23),(b 11),(b 54),(b 26),(b 40),(b 15),(b 34),(b 20),(b 31),(b 10),(b 25),(b 14),(b 19),(b 9),(b 13),(b 8),(b 7),(b 6)])
def g7 : AObj := (D [(b 8),(i 1),(i 4),(i 0),(i 5),(i 7),(i 0),(i 0),(i 0),(i 0),(b 7),(i 4),(i 4),(i 0),(i 6),(i 7),(i 0),(i 0),(i 0),(i 0),(b 9),(i 1),(i 4),(i 0),(i 2),(i 4),(i 0),(i 0),(i 0),(i 0),(b 2),(i 4),(i 4),(i 0),(i 3),(i 4),(i 0),(i 0),(i 0),(i 0),(b 21),(i 1),(i 4),(i 0),(i 2),(i 4),(i 0),(i 5),(i 3),(i 2),(b 24),(i 2),(i 4),(i 0),(i 3),(i 4),(i 0),(i 5),(i 3),(i 2),(b 23),(i 1),(i 4),(i 0),(i 2),(i 4),(i 0),(i 5),(i 3),(i 0),(b 26),(i 2),(i 4),(i 0),(i 3),(i 4),(i 0),(i 5),(i 3),(i 0),(b 13),(i 2),(i 4),(i 0),(i 5),(i 7),(i 0),(i 0),(i 0),(i 0)])
def g8 : AObj := (D [(s [105,110,118,97,108,105,100,32,115,121,110,116,97,120])])
def g9 : AObj := (D [(s [118,97,108,117,101,32,111,117,116,32,111,102,32,114,97,110,103,101])])
def g10 : AObj := (D [(S 12 0 0 90 9 9 true 10)])
def g11 : AObj := (D [(.iface 419 (P 14 0 0 1))])
def g12 : AObj := (.cells [(b 1),(s [108,111,111,112,48]),(i 0),(i 1),(i 1),(b 3),(s [40]),(i 0),(i 1),(i 6),(b 1),(s [65]),(i 0),(i 1),(i 7),(b 3),(s [44]),(i 0),(i 1),(i 8),(b 3),(s [35]),(i 0),(i 1),(i 10),(b 2),(s [51]),(i 3),(i 1),(i 11),(b 3),(s [41]),(i 0),(i 1),(i 12),(b 4),(s []),(i 0),(i 1),(i 13),(b 1),(s [65]),(i 0),(i 2),(i 1),(b 3),(s [58]),(i 0),(i 2),(i 2),(b 3),(s [123]),(i 0),(i 2),(i 4),(b 1),(s [110,111,112]),(i 0),(i 2),(i 6),(b 4),(s []),(i 0),(i 2),(i 9),(b 1),(s [110,111,112]),(i 0),(i 3),(i 2),(b 3),(s [125]),(i 0),(i 3),(i 6),(b 3),(s [58]),(i 0),(i 3),(i 8),(b 1),(s [101,110,100,108,111,111,112,48]),(i 0),(i 3),(i 9),(b 4),(s []),(i 0),(i 3),(i 17),(b 1),(s [106,117,109,112,114]),(i 0),(i 4),(i 1),(b 1),(s [114,51,49]),(i 0),(i 4),(i 7),(b 4),(s []),(i 0),(i 4),(i 10),(b 4),(s []),(i 0),(i 5),(i 1)] 0 21 false)
def g13 : AObj := (C [(b 2),(i 0),(s [65]),(i 0),(i 0)])
def g14 : AObj := (C [(b 1),(i 3),(s []),(i 0),(i 0)])
def g15 : AObj := (.cells [(b 1),(s [105,102]),(i 0),(i 1),(i 1),(b 3),(s [40]),(i 0),(i 1),(i 4),(b 1),(s [112,48]),(i 0),(i 1),(i 5),(b 3),(s [41]),(i 0),(i 1),(i 7),(b 1),(s [106,117,109,112]),(i 0),(i 1),(i 9),(b 2),(s [49,54]),(i 16),(i 1),(i 14),(b 4),(s []),(i 0),(i 1),(i 16),(b 4),(s []),(i 0),(i 2),(i 1)] 0 7 false)
def g16 : AObj := (C [(b 1),(i 16),(s []),(i 0),(i 0)])
def g17 : AObj := (.cells [(b 1),(s [99,97,108,108]),(i 0),(i 1),(i 1),(b 2),(s [56]),(i 8),(i 1),(i 6),(b 4),(s []),(i 0),(i 1),(i 7),(b 1),(s [110,111,112]),(i 0),(i 2),(i 1),(b 4),(s []),(i 0),(i 2),(i 4),(b 1),(s [46,115,101,99,116,105,111,110]),(i 0),(i 3),(i 1),(b 1),(s [100,97,116,97]),(i 0),(i 3),(i 10),(b 4),(s []),(i 0),(i 3),(i 14),(b 1),(s [46,119,111,114,100]),(i 0),(i 4),(i 1),(b 2),(s [48]),(i 0),(i 4),(i 7),(b 4),(s []),(i 0),(i 4),(i 8),(b 1),(s [46,115,101,99,116,105,111,110]),(i 0),(i 5),(i 1),(b 1),(s [99,111,100,101]),(i 0),(i 5),(i 10),(b 4),(s []),(i 0),(i 5),(i 14),(b 1),(s [110,111,112]),(i 0),(i 6),(i 1),(b 4),(s []),(i 0),(i 6),(i 4)] 0 15 false)
def g18 : AObj := (C [(b 1),(i 8),(s []),(i 0),(i 0)])
def g19 : AObj := (.cells [(b 1),(s [110,111,112]),(i 0),(i 1),(i 1),(b 4),(s []),(i 0),(i 1),(i 4),(b 1),(s [76]),(i 0),(i 2),(i 1),(b 3),(s [58]),(i 0),(i 2),(i 2),(b 1),(s [106,117,109,112]),(i 0),(i 2),(i 4),(b 1),(s [76]),(i 0),(i 2),(i 9),(b 4),(s []),(i 0),(i 2),(i 10),(b 1),(s [110,111,112]),(i 0),(i 3),(i 1),(b 4),(s []),(i 0),(i 3),(i 4),(b 4),(s []),(i 0),(i 4),(i 1)] 0 9 false)
def g20 : AObj := (C [(b 2),(i 0),(s [76]),(i 0),(i 0)])
def g21 : AObj := (.cells [(b 2),(s []),.nilSlice,(S 15 0 0 16 1 1 true 16),z,z,z,(i 1),(i 1),(b 1),(s [65]),.nilSlice,.nilSlice,z,z,z,(i 2),(i 1),(b 2),(s []),.nilSlice,(S 16 0 1 32 2 2 false 16),y,z,z,(i 2),(i 4),(b 2),(s []),.nilSlice,(S 17 0 0 16 1 1 true 16),z,z,z,(i 4),(i 1)] 0 3 false)
def g22 : AObj := (C [(b 30),(b 0),(b 0),(b 0),(b 0),(b 0),(b 0),z,z,(.int .u16 0),(i 0),(S 18 0 0 5 1 1 false 5),(S 19 0 0 5 1 1 false 5),z,(i 1),(i 1)])
def g23 : AObj := (.cells [(b 1),(b 0),(b 0),(b 0),(b 0),(b 0),(b 0),z,z,(.int .u16 0),(i 0),.nilSlice,.nilSlice,z,(i 2),(i 6),(b 1),(b 0),(b 0),(b 0),(b 0),(b 0),(b 0),z,z,(.int .u16 0),(i 0),.nilSlice,.nilSlice,z,(i 3),(i 2)] 0 1 false)
def g24 : AObj := (C [(b 28),(b 0),(b 31),(b 0),(b 0),(b 0),(b 0),z,z,(.int .u16 0),(i 0),.nilSlice,.nilSlice,z,(i 4),(i 1)])
def g25 : AObj := (C [(b 2),(s []),.nilSlice,(S 15 0 0 16 1 1 true 16),z,z,z,(i 1),(i 1)])
def g26 : AObj := (C [(b 27),(b 0),(b 0),(b 0),(b 0),(b 0),(b 1),z,z,(.int .u16 0),(i 0),(S 16 0 0 5 1 1 false 5),.nilSlice,z,(i 1),(i 1)])
def g27 : AObj := (.cells [(b 2),(s []),.nilSlice,(S 15 0 0 16 1 1 true 16),z,z,z,(i 1),(i 1),(b 2),(s []),.nilSlice,(S 16 0 0 16 1 1 true 16),z,z,z,(i 2),(i 1),(b 9),(s [100,97,116,97]),.nilSlice,.nilSlice,z,z,z,(i 3),(i 1),(b 5),(s []),(S 17 0 0 1 1 1 false 1),.nilSlice,z,z,z,(i 4),(i 1),(b 9),(s [99,111,100,101]),.nilSlice,.nilSlice,z,z,z,(i 5),(i 1),(b 2),(s []),.nilSlice,(S 18 0 0 16 1 1 true 16),z,z,z,(i 6),(i 1)] 0 5 false)
def g28 : AObj := (C [(b 29),(b 0),(b 0),(b 0),(b 0),(b 0),(b 0),z,z,(.int .u16 0),(i 0),(S 19 0 0 5 1 1 false 5),.nilSlice,z,(i 1),(i 1)])
def g29 : AObj := (C [(b 1),(b 0),(b 0),(b 0),(b 0),(b 0),(b 0),z,z,(.int .u16 0),(i 0),.nilSlice,.nilSlice,z,(i 2),(i 1)])
def g30 : AObj := (C [(S 20 0 0 5 1 1 false 5)])
def g31 : AObj := (C [(b 1),(b 0),(b 0),(b 0),(b 0),(b 0),(b 0),z,z,(.int .u16 0),(i 0),.nilSlice,.nilSlice,z,(i 6),(i 1)])
def g32 : AObj := (C [(b 1),(i 0),(s []),(i 0),(i 0)])
def g33 : AObj := (.cells [(b 2),(s []),.nilSlice,(S 15 0 0 16 1 1 true 16),z,z,z,(i 1),(i 1),(b 1),(s [76]),.nilSlice,.nilSlice,z,z,z,(i 2),(i 1),(b 2),(s []),.nilSlice,(S 16 0 0 16 1 1 true 16),z,z,z,(i 2),(i 4),(b 2),(s []),.nilSlice,(S 17 0 0 16 1 1 true 16),z,z,z,(i 3),(i 1)] 0 3 false)
def g34 : AObj := (C [(b 1),(b 0),(b 0),(b 0),(b 0),(b 0),(b 0),z,z,(.int .u16 0),(i 0),.nilSlice,.nilSlice,z,(i 1),(i 1)])
def g35 : AObj := (C [(b 27),(b 0),(b 0),(b 0),(b 0),(b 0),(b 0),z,z,(.int .u16 0),(i 0),(S 18 0 0 5 1 1 false 5),.nilSlice,z,(i 2),(i 4)])
def g36 : AObj := (C [(b 1),(b 0),(b 0),(b 0),(b 0),(b 0),(b 0),z,z,(.int .u16 0),(i 0),.nilSlice,.nilSlice,z,(i 3),(i 1)])
def g37 : AObj := (C [(b 30),(b 0),(b 0),(b 0),(b 0),(b 0),(b 0),z,z,(.int .u16 3),(i 4)])
def g38 : AObj := (.cells [(b 1),(b 0),(b 0),(b 0),(b 0),(b 0),(b 0),z,z,(.int .u16 0),(i 0),(b 1),(b 0),(b 0),(b 0),(b 0),(b 0),(b 0),z,z,(.int .u16 0),(i 0)] 0 1 false)
def g39 : AObj := (C [(b 28),(b 0),(b 31),(b 0),(b 0),(b 0),(b 0),z,z,(.int .u16 0),(i 0)])
def g40 : AObj := (C [(b 27),(b 0),(b 0),(b 0),(b 0),(b 0),(b 1),z,z,(.int .u16 0),(i 16)])
def g41 : AObj := (C [(b 29),(b 0),(b 0),(b 0),(b 0),(b 0),(b 0),z,z,(.int .u16 0),(i 8)])
def g42 : AObj := (C [(b 1),(b 0),(b 0),(b 0),(b 0),(b 0),(b 0),z,z,(.int .u16 0),(i 0)])
def g43 : AObj := (C [(b 27),(b 0),(b 0),(b 0),(b 0),(b 0),(b 0),z,z,(.int .u16 0),(i 4)])
def g44 : AObj := (C [(w 67158016)])
def g45 : AObj := (.cells [(b 3),(b 200),(b 0),(b 120),(b 0),(b 128),(b 0),(b 4),(b 0),(b 192),(b 0),(b 4),(b 0),(b 192),(b 31),(b 112)] 0 2 false)
def g46 : AObj := (C [(w 0),(i 16),y])
def g47 : AObj := (.cells [(w 0),(w 4),(w 12)] 0 2 false)
def g48 : AObj := (C [(b 4),(b 192),(b 128),(b 108)])
def g49 : AObj := (C [(w 0),(i 4),y])
def g50 : AObj := (.cells [(b 2),(b 192),(b 0),(b 116),(b 0),(b 192),(b 0),(b 4),(b 0),(b 0),(b 0),(b 0),(b 0),(b 192),(b 0),(b 4)] 0 3 false)
def g51 : AObj := (.cells [(w 0),(i 8),y,(w 8),(i 4),z,(w 12),(i 4),y] 0 2 false)
def g52 : AObj := (.cells [(S 18 0 0 11 1 1 false 11),z,z,z,z,(S 19 0 0 11 1 1 false 11),z,z,z,z,(S 20 0 0 11 1 1 false 11),z,z,z,z] 0 2 false)
def g53 : AObj := (.cells [(b 0),(b 192),(b 0),(b 4),(b 0),(b 192),(b 0),(b 108),(b 0),(b 192),(b 0),(b 4)] 0 2 false)
def g54 : AObj := (C [(w 0),(i 12),y])
def g55 : AObj := (D [(S 13 0 0 90 9 9 true 10)])
def g56 : AObj := (D [(.iface 419 (P 15 0 0 1))])
def g57 : AObj := (.cells [(w 4),(w 12)] 1 1 false)
def g58 : AObj := (.cells [(w 4),(w 16)] 1 1 false)
def gob : List AObj := [(D [(i 26),(i 6)]),(D [(i 0),(i 14),(i 16),(i 10)]),(D [(i 14),(i 2)])]
noncomputable def tl0 : List (Nat × FnImp) := t_law
noncomputable def tr0 : Tree FnImp := (.node none (.node none (.node none (.node none (.node (some (.code ir15)) (.node (some (.code ir31)) (.node (some (.code ir63)) (.node (some (.code ir127)) (.node (some (.code ir255)) .leaf .leaf) .leaf) (.node (some (.code ir191)) .leaf .leaf)) (.node (some (.code ir95)) (.node (some (.code ir159)) (.node (some (.code ir287)) .leaf .leaf) .leaf) (.node (some (.code ir223)) .leaf .leaf))) (.node none (.node (some (.code ir79)) (.node (some (.code ir143)) (.node (some (.code ir271)) .leaf .leaf) .leaf) (.node (some (.code ir207)) .leaf .leaf)) (.node (some (.code ir111)) (.node (some (.code ir175)) (.node (some (.code ir303)) .leaf .leaf) .leaf) (.node (some (.code ir239)) .leaf .leaf)))) (.node (some (.code ir23)) (.node (some (.code ir39)) (.node (some (.code ir71)) (.node (some (.code ir135)) .leaf .leaf) (.node (some (.code ir199)) .leaf .leaf)) (.node (some (.code ir103)) (.node (some (.code ir167)) .leaf .leaf) (.node (some (.hook (pureH (inF writesPredR)))) .leaf .leaf))) (.node (some (.code ir55)) (.node (some (.code ir87)) (.node (some (.code ir151)) .leaf .leaf) .leaf) (.node (some (.code ir119)) (.node (some (.code ir183)) (.node (some (.code ir311)) .leaf .leaf) .leaf) (.node (some (.code ir247)) .leaf .leaf))))) (.node (some (.code ir11)) (.node none (.node (some (.code ir35)) (.node (some (.code ir67)) (.node (some (.code ir131)) (.node (some (.code ir259)) .leaf .leaf) .leaf) (.node (some (.code ir195)) .leaf .leaf)) (.node (some (.code ir99)) (.node (some (.code ir163)) (.node (some (.code ir291)) .leaf .leaf) .leaf) (.node (some (.code ir227)) .leaf .leaf))) (.node (some (.code ir51)) (.node (some (.code ir83)) (.node (some (.code ir147)) (.node (some (.code ir275)) .leaf .leaf) .leaf) (.node (some (.code ir211)) .leaf .leaf)) (.node (some (.code ir115)) (.node (some (.code ir179)) (.node (some (.code ir307)) .leaf .leaf) .leaf) .leaf))) (.node (some (.code ir27)) (.node (some (.code ir43)) (.node (some (.code ir75)) (.node (some (.hook (pureH atG))) .leaf .leaf) (.node (some (.code ir203)) .leaf .leaf)) (.node (some (.code ir107)) (.node (some (.code ir171)) .leaf .leaf) (.node (some (.code ir235)) .leaf .leaf))) (.node (some (.code ir59)) (.node (some (.code ir91)) (.node (some (.code ir155)) .leaf .leaf) (.node (some (.code ir219)) .leaf .leaf)) (.node (some (.code ir123)) (.node (some (.hook (pureH (inF rightR)))) (.node (some (.code ir315)) .leaf .leaf) .leaf) (.node (some (.code ir251)) .leaf .leaf)))))) (.node (some (.code ir5)) (.node (some (.code ir9)) (.node (some (.code ir17)) (.node (some (.code ir33)) (.node (some (.code ir65)) (.node (some (.code ir129)) (.node (some (.code ir257)) .leaf .leaf) .leaf) (.node (some (.code ir193)) .leaf .leaf)) (.node (some (.code ir97)) (.node (some (.code ir161)) (.node (some (.code ir289)) .leaf .leaf) .leaf) .leaf)) (.node (some (.code ir49)) (.node (some (.code ir81)) (.node (some (.code ir145)) (.node (some (.code ir273)) .leaf .leaf) .leaf) (.node (some (.code ir209)) .leaf .leaf)) (.node (some (.code ir113)) (.node (some (.code ir177)) (.node (some (.code ir305)) .leaf .leaf) .leaf) (.node (some (.code ir241)) .leaf .leaf)))) (.node (some (.code ir25)) (.node (some (.code ir41)) (.node (some (.code ir73)) (.node (some (.code ir137)) .leaf .leaf) (.node (some (.hook (pureH classG))) .leaf .leaf)) (.node (some (.code ir105)) (.node (some (.code ir169)) .leaf .leaf) (.node (some (.code ir233)) .leaf .leaf))) (.node (some (.code ir57)) (.node (some (.code ir89)) (.node (some (.code ir153)) .leaf .leaf) .leaf) (.node (some (.code ir121)) (.node (some (.code ir185)) (.node (some (.code ir313)) .leaf .leaf) .leaf) (.node (some (.code ir249)) .leaf .leaf))))) (.node (some (.code ir13)) (.node (some (.code ir21)) (.node (some (.code ir37)) (.node (some (.code ir69)) (.node (some (.code ir133)) (.node (some (.code ir261)) .leaf .leaf) .leaf) (.node (some (.code ir197)) .leaf .leaf)) (.node (some (.code ir101)) (.node (some (.code ir165)) (.node (some (.code ir293)) .leaf .leaf) .leaf) (.node (some (.hook (pureH (inF readsPredR)))) .leaf .leaf))) (.node (some (.code ir53)) (.node (some (.code ir85)) (.node (some (.code ir149)) (.node (some (.code ir277)) .leaf .leaf) .leaf) (.node (some (.code ir213)) .leaf .leaf)) (.node (some (.code ir117)) (.node (some (.code ir181)) .leaf .leaf) (.node (some (.code ir245)) .leaf .leaf)))) (.node (some (.code ir29)) (.node (some (.code ir45)) (.node (some (.code ir77)) (.node (some (.code ir141)) .leaf .leaf) (.node (some (.code ir205)) .leaf .leaf)) (.node (some (.code ir109)) (.node (some (.code ir173)) (.node (some (.code ir301)) .leaf .leaf) .leaf) (.node (some (.code ir237)) .leaf .leaf))) (.node (some (.code ir61)) (.node (some (.code ir93)) (.node (some (.code ir157)) (.node (some (.code ir285)) .leaf .leaf) .leaf) (.node (some (.code ir221)) .leaf .leaf)) (.node (some (.code ir125)) (.node (some (.code ir189)) .leaf .leaf) (.node (some (.code ir253)) .leaf .leaf))))))) (.node none (.node (some (.code ir4)) (.node (some (.code ir8)) (.node (some (.code ir16)) (.node (some (.code ir32)) (.node (some (.code ir64)) (.node (some (.code ir128)) (.node (some (.code ir256)) .leaf .leaf) .leaf) (.node (some (.code ir192)) .leaf .leaf)) (.node (some (.code ir96)) (.node (some (.code ir160)) (.node (some (.code ir288)) .leaf .leaf) .leaf) .leaf)) (.node (some (.code ir48)) (.node (some (.code ir80)) (.node (some (.code ir144)) .leaf .leaf) (.node (some (.code ir208)) .leaf .leaf)) (.node (some (.code ir112)) (.node (some (.code ir176)) (.node (some (.code ir304)) .leaf .leaf) .leaf) (.node (some (.code ir240)) .leaf .leaf)))) (.node (some (.code ir24)) (.node (some (.code ir40)) (.node (some (.code ir72)) (.node (some (.code ir136)) .leaf .leaf) (.node (some (.code ir200)) .leaf .leaf)) (.node (some (.code ir104)) (.node (some (.code ir168)) (.node (some (.code ir296)) .leaf .leaf) .leaf) (.node (some (.hook (pureH (inF writesR)))) .leaf .leaf))) (.node (some (.code ir56)) (.node (some (.code ir88)) (.node (some (.code ir152)) .leaf .leaf) (.node (some (.code ir216)) .leaf .leaf)) (.node (some (.code ir120)) (.node (some (.code ir184)) (.node (some (.code ir312)) .leaf .leaf) .leaf) (.node (some (.code ir248)) .leaf .leaf))))) (.node (some (.code ir12)) (.node (some (.code ir20)) (.node (some (.code ir36)) (.node (some (.code ir68)) (.node (some (.code ir132)) (.node (some (.code ir260)) .leaf .leaf) .leaf) (.node (some (.code ir196)) .leaf .leaf)) (.node (some (.code ir100)) (.node (some (.code ir164)) (.node (some (.code ir292)) .leaf .leaf) .leaf) (.node (some (.code ir228)) .leaf .leaf))) (.node (some (.code ir52)) (.node (some (.code ir84)) (.node (some (.code ir148)) (.node (some (.code ir276)) .leaf .leaf) .leaf) (.node (some (.hook (atoiH 6 7 398))) .leaf .leaf)) (.node (some (.code ir116)) .leaf .leaf))) (.node (some (.code ir28)) (.node (some (.code ir44)) (.node (some (.code ir76)) (.node (some (.code ir140)) .leaf .leaf) (.node (some (.code ir204)) .leaf .leaf)) (.node (some (.code ir108)) (.node (some (.code ir172)) (.node (some (.code ir300)) .leaf .leaf) .leaf) (.node (some (.code ir236)) .leaf .leaf))) (.node (some (.code ir60)) (.node (some (.code ir92)) (.node (some (.code ir156)) (.node (some (.code ir284)) .leaf .leaf) .leaf) (.node (some (.code ir220)) .leaf .leaf)) (.node (some (.code ir124)) (.node (some (.code ir188)) (.node (some (.code ir316)) .leaf .leaf) .leaf) (.node (some (.code ir252)) .leaf .leaf)))))) (.node none (.node (some (.code ir10)) (.node none (.node (some (.code ir34)) (.node (some (.code ir66)) (.node (some (.code ir130)) (.node (some (.code ir258)) .leaf .leaf) .leaf) .leaf) (.node (some (.code ir98)) (.node (some (.code ir162)) (.node (some (.code ir290)) .leaf .leaf) .leaf) .leaf)) (.node (some (.code ir50)) (.node (some (.code ir82)) (.node (some (.hook (litH rowG))) (.node (some (.code ir274)) .leaf .leaf) .leaf) (.node (some (.code ir210)) .leaf .leaf)) (.node (some (.code ir114)) (.node none (.node (some (.code ir306)) .leaf .leaf) .leaf) (.node (some (.code ir242)) .leaf .leaf)))) (.node none (.node (some (.code ir42)) (.node (some (.code ir74)) (.node (some (.code ir138)) .leaf .leaf) (.node (some (.code ir202)) .leaf .leaf)) (.node (some (.code ir106)) (.node (some (.ext .indexByte)) .leaf .leaf) (.node (some (.code ir234)) .leaf .leaf))) (.node (some (.code ir58)) (.node (some (.code ir90)) (.node (some (.code ir154)) .leaf .leaf) (.node (some (.code ir218)) .leaf .leaf)) (.node (some (.code ir122)) (.node (some (.code ir186)) (.node (some (.code ir314)) .leaf .leaf) .leaf) (.node (some (.code ir250)) .leaf .leaf))))) (.node (some (.code ir14)) (.node (some (.code ir22)) (.node (some (.code ir38)) (.node (some (.code ir70)) (.node (some (.code ir134)) .leaf .leaf) (.node (some (.code ir198)) .leaf .leaf)) (.node (some (.code ir102)) (.node (some (.code ir166)) (.node (some (.code ir294)) .leaf .leaf) .leaf) (.node (some (.code ir230)) .leaf .leaf))) (.node (some (.code ir54)) (.node (some (.code ir86)) (.node (some (.code ir150)) (.node (some (.code ir278)) .leaf .leaf) .leaf) (.node (some (.code ir214)) .leaf .leaf)) (.node (some (.code ir118)) (.node (some (.code ir182)) .leaf .leaf) (.node (some (.code ir246)) .leaf .leaf)))) (.node (some (.code ir30)) (.node (some (.code ir46)) (.node (some (.code ir78)) (.node (some (.code ir142)) .leaf .leaf) (.node (some (.code ir206)) .leaf .leaf)) (.node (some (.code ir110)) (.node (some (.code ir174)) (.node (some (.code ir302)) .leaf .leaf) .leaf) (.node (some (.code ir238)) .leaf .leaf))) (.node (some (.code ir62)) (.node (some (.code ir94)) (.node (some (.code ir158)) (.node (some (.code ir286)) .leaf .leaf) .leaf) (.node (some (.code ir222)) .leaf .leaf)) (.node (some (.code ir126)) (.node (some (.code ir190)) .leaf .leaf) (.node (some (.code ir254)) .leaf .leaf))))))))
theorem tr0_ok : treeOf tl0 = tr0 := by kernel_rfl
def e173x0 : Ent := ⟨[(s [108,111,111,112,48]),(s [114]),(i 32)],gob ++ [g0,g1,(D []),g2,g3,g4,g5,g6,g7,g8,g9],(.tuple [(b 0),z]),nones 14,[]⟩
def e173x1 : Ent := ⟨[(s [108,111,111,112,48]),(s [112]),(i 4)],gob ++ [g0,g1,(D []),g2,g3,g4,g5,g6,g7,g8,g9],(.tuple [(b 0),z]),nones 14,[]⟩
def e173x2 : Ent := ⟨[(s []),(s [114]),(i 32)],gob ++ [g0,g1,(D []),g2,g3,g4,g5,g6,g7,g8,g9],(.tuple [(b 0),z]),nones 14,[]⟩
def e173x3 : Ent := ⟨[(s [65]),(s [114]),(i 32)],gob ++ [g0,g1,(D []),g2,g3,g4,g5,g6,g7,g8,g9],(.tuple [(b 0),z]),nones 14,[]⟩
def e173x4 : Ent := ⟨[(s [65]),(s [112]),(i 4)],gob ++ [g0,g1,(D []),g2,g3,g4,g5,g6,g7,g8,g9],(.tuple [(b 0),z]),nones 14,[]⟩
def e173x5 : Ent := ⟨[(s [110,111,112]),(s [112]),(i 4)],gob ++ [g0,g1,(D []),g2,g3,g4,g5,g6,g7,g8,g9],(.tuple [(b 0),z]),nones 14,[]⟩
def e173x6 : Ent := ⟨[(s [110,111,112]),(s [114]),(i 32)],gob ++ [g0,g1,(D []),g2,g3,g4,g5,g6,g7,g8,g9],(.tuple [(b 0),z]),nones 14,[]⟩
def e173x7 : Ent := ⟨[(s [106,117,109,112,114]),(s [114]),(i 32)],gob ++ [g0,g1,(D []),g2,g3,g4,g5,g6,g7,g8,g9],(.tuple [(b 0),z]),nones 14,[]⟩
def e173x8 : Ent := ⟨[(s [106,117,109,112,114]),(s [112]),(i 4)],gob ++ [g0,g1,(D []),g2,g3,g4,g5,g6,g7,g8,g9],(.tuple [(b 0),z]),nones 14,[]⟩
def e173x9 : Ent := ⟨[(s [114,51,49]),(s [114]),(i 32)],gob ++ [g0,g1,(D []),g2,g3,g4,g5,g6,g7,g8,g9],(.tuple [(b 31),y]),nones 14,[]⟩
def e173x10 : Ent := ⟨[(s [105,102]),(s [114]),(i 32)],gob ++ [g0,g1,(D []),g2,g3,g4,g5,g6,g7,g8,g9],(.tuple [(b 0),z]),nones 14,[]⟩
def e173x11 : Ent := ⟨[(s [105,102]),(s [112]),(i 4)],gob ++ [g0,g1,(D []),g2,g3,g4,g5,g6,g7,g8,g9],(.tuple [(b 0),z]),nones 14,[]⟩
def e173x12 : Ent := ⟨[(s [112,48]),(s [112]),(i 4)],gob ++ [g0,g1,(D []),g2,g3,g4,g5,g6,g7,g8,g9],(.tuple [(b 0),y]),nones 14,[]⟩
def e173x13 : Ent := ⟨[(s [106,117,109,112]),(s [112]),(i 4)],gob ++ [g0,g1,(D []),g2,g3,g4,g5,g6,g7,g8,g9],(.tuple [(b 0),z]),nones 14,[]⟩
def e173x14 : Ent := ⟨[(s [106,117,109,112]),(s [114]),(i 32)],gob ++ [g0,g1,(D []),g2,g3,g4,g5,g6,g7,g8,g9],(.tuple [(b 0),z]),nones 14,[]⟩
def e173x15 : Ent := ⟨[(s [99,97,108,108]),(s [114]),(i 32)],gob ++ [g0,g1,(D []),g2,g3,g4,g5,g6,g7,g8,g9],(.tuple [(b 0),z]),nones 14,[]⟩
def e173x16 : Ent := ⟨[(s [99,97,108,108]),(s [112]),(i 4)],gob ++ [g0,g1,(D []),g2,g3,g4,g5,g6,g7,g8,g9],(.tuple [(b 0),z]),nones 14,[]⟩
def e173x17 : Ent := ⟨[(s [46,115,101,99,116,105,111,110]),(s [114]),(i 32)],gob ++ [g0,g1,(D []),g2,g3,g4,g5,g6,g7,g8,g9],(.tuple [(b 0),z]),nones 14,[]⟩
def e173x18 : Ent := ⟨[(s [46,115,101,99,116,105,111,110]),(s [112]),(i 4)],gob ++ [g0,g1,(D []),g2,g3,g4,g5,g6,g7,g8,g9],(.tuple [(b 0),z]),nones 14,[]⟩
def e173x19 : Ent := ⟨[(s [46,119,111,114,100]),(s [114]),(i 32)],gob ++ [g0,g1,(D []),g2,g3,g4,g5,g6,g7,g8,g9],(.tuple [(b 0),z]),nones 14,[]⟩
def e173x20 : Ent := ⟨[(s [46,119,111,114,100]),(s [112]),(i 4)],gob ++ [g0,g1,(D []),g2,g3,g4,g5,g6,g7,g8,g9],(.tuple [(b 0),z]),nones 14,[]⟩
def e173x21 : Ent := ⟨[(s [76]),(s [114]),(i 32)],gob ++ [g0,g1,(D []),g2,g3,g4,g5,g6,g7,g8,g9],(.tuple [(b 0),z]),nones 14,[]⟩
def e173x22 : Ent := ⟨[(s [76]),(s [112]),(i 4)],gob ++ [g0,g1,(D []),g2,g3,g4,g5,g6,g7,g8,g9],(.tuple [(b 0),z]),nones 14,[]⟩
def tbl173 : List Ent := [e173x0, e173x1, e173x2, e173x3, e173x4, e173x5, e173x6, e173x7, e173x8, e173x9, e173x10, e173x11, e173x12, e173x13, e173x14, e173x15, e173x16, e173x17, e173x18, e173x19, e173x20, e173x21, e173x22]
theorem ce173x0 : chkE (tabT tr0) (evalF (tabT tr0) 100000) 173 e173x0 = true := by kernel_rfl
theorem ce173x1 : chkE (tabT tr0) (evalF (tabT tr0) 100000) 173 e173x1 = true := by kernel_rfl
theorem ce173x2 : chkE (tabT tr0) (evalF (tabT tr0) 100000) 173 e173x2 = true := by kernel_rfl
theorem ce173x3 : chkE (tabT tr0) (evalF (tabT tr0) 100000) 173 e173x3 = true := by kernel_rfl
theorem ce173x4 : chkE (tabT tr0) (evalF (tabT tr0) 100000) 173 e173x4 = true := by kernel_rfl
theorem ce173x5 : chkE (tabT tr0) (evalF (tabT tr0) 100000) 173 e173x5 = true := by kernel_rfl
theorem ce173x6 : chkE (tabT tr0) (evalF (tabT tr0) 100000) 173 e173x6 = true := by kernel_rfl
theorem ce173x7 : chkE (tabT tr0) (evalF (tabT tr0) 100000) 173 e173x7 = true := by kernel_rfl
theorem ce173x8 : chkE (tabT tr0) (evalF (tabT tr0) 100000) 173 e173x8 = true := by kernel_rfl
theorem ce173x9 : chkE (tabT tr0) (evalF (tabT tr0) 100000) 173 e173x9 = true := by kernel_rfl
theorem ce173x10 : chkE (tabT tr0) (evalF (tabT tr0) 100000) 173 e173x10 = true := by kernel_rfl
theorem ce173x11 : chkE (tabT tr0) (evalF (tabT tr0) 100000) 173 e173x11 = true := by kernel_rfl
theorem ce173x12 : chkE (tabT tr0) (evalF (tabT tr0) 100000) 173 e173x12 = true := by kernel_rfl
theorem ce173x13 : chkE (tabT tr0) (evalF (tabT tr0) 100000) 173 e173x13 = true := by kernel_rfl
theorem ce173x14 : chkE (tabT tr0) (evalF (tabT tr0) 100000) 173 e173x14 = true := by kernel_rfl
theorem ce173x15 : chkE (tabT tr0) (evalF (tabT tr0) 100000) 173 e173x15 = true := by kernel_rfl
theorem ce173x16 : chkE (tabT tr0) (evalF (tabT tr0) 100000) 173 e173x16 = true := by kernel_rfl
theorem ce173x17 : chkE (tabT tr0) (evalF (tabT tr0) 100000) 173 e173x17 = true := by kernel_rfl
theorem ce173x18 : chkE (tabT tr0) (evalF (tabT tr0) 100000) 173 e173x18 = true := by kernel_rfl
theorem ce173x19 : chkE (tabT tr0) (evalF (tabT tr0) 100000) 173 e173x19 = true := by kernel_rfl
theorem ce173x20 : chkE (tabT tr0) (evalF (tabT tr0) 100000) 173 e173x20 = true := by kernel_rfl
theorem ce173x21 : chkE (tabT tr0) (evalF (tabT tr0) 100000) 173 e173x21 = true := by kernel_rfl
theorem ce173x22 : chkE (tabT tr0) (evalF (tabT tr0) 100000) 173 e173x22 = true := by kernel_rfl
theorem all173 : ∀ E, E ∈ tbl173 → chkE (tabT tr0) (evalF (tabT tr0) 100000) 173 E = true := all_cons (p := fun E => chkE (tabT tr0) (evalF (tabT tr0) 100000) 173 E) ce173x0 (all_cons (p := fun E => chkE (tabT tr0) (evalF (tabT tr0) 100000) 173 E) ce173x1 (all_cons (p := fun E => chkE (tabT tr0) (evalF (tabT tr0) 100000) 173 E) ce173x2 (all_cons (p := fun E => chkE (tabT tr0) (evalF (tabT tr0) 100000) 173 E) ce173x3 (all_cons (p := fun E => chkE (tabT tr0) (evalF (tabT tr0) 100000) 173 E) ce173x4 (all_cons (p := fun E => chkE (tabT tr0) (evalF (tabT tr0) 100000) 173 E) ce173x5 (all_cons (p := fun E => chkE (tabT tr0) (evalF (tabT tr0) 100000) 173 E) ce173x6 (all_cons (p := fun E => chkE (tabT tr0) (evalF (tabT tr0) 100000) 173 E) ce173x7 (all_cons (p := fun E => chkE (tabT tr0) (evalF (tabT tr0) 100000) 173 E) ce173x8 (all_cons (p := fun E => chkE (tabT tr0) (evalF (tabT tr0) 100000) 173 E) ce173x9 (all_cons (p := fun E => chkE (tabT tr0) (evalF (tabT tr0) 100000) 173 E) ce173x10 (all_cons (p := fun E => chkE (tabT tr0) (evalF (tabT tr0) 100000) 173 E) ce173x11 (all_cons (p := fun E => chkE (tabT tr0) (evalF (tabT tr0) 100000) 173 E) ce173x12 (all_cons (p := fun E => chkE (tabT tr0) (evalF (tabT tr0) 100000) 173 E) ce173x13 (all_cons (p := fun E => chkE (tabT tr0) (evalF (tabT tr0) 100000) 173 E) ce173x14 (all_cons (p := fun E => chkE (tabT tr0) (evalF (tabT tr0) 100000) 173 E) ce173x15 (all_cons (p := fun E => chkE (tabT tr0) (evalF (tabT tr0) 100000) 173 E) ce173x16 (all_cons (p := fun E => chkE (tabT tr0) (evalF (tabT tr0) 100000) 173 E) ce173x17 (all_cons (p := fun E => chkE (tabT tr0) (evalF (tabT tr0) 100000) 173 E) ce173x18 (all_cons (p := fun E => chkE (tabT tr0) (evalF (tabT tr0) 100000) 173 E) ce173x19 (all_cons (p := fun E => chkE (tabT tr0) (evalF (tabT tr0) 100000) 173 E) ce173x20 (all_cons (p := fun E => chkE (tabT tr0) (evalF (tabT tr0) 100000) 173 E) ce173x21 (all_cons (p := fun E => chkE (tabT tr0) (evalF (tabT tr0) 100000) 173 E) ce173x22 (fun _ h => by cases h)))))))))))))))))))))))
noncomputable def tl1 : List (Nat × FnImp) := (173, .hook (memoAH memoPre tbl173)) :: tl0
noncomputable def tr1 : Tree FnImp := tr0.set 173 (.hook (memoAH memoPre tbl173))
theorem tr1_ok : treeOf tl1 = tr1 := by kernel_rfl
noncomputable def tl2 : List (Nat × FnImp) := (178, .hook (deferH (evalF (tabT tr1) 100000) dfn178)) :: tl1
noncomputable def tr2 : Tree FnImp := tr1.set 178 (.hook (deferH (evalF (tabT tr1) 100000) dfn178))
theorem tr2_ok : treeOf tl2 = tr2 := by kernel_rfl
def e178x0 : Ent := ⟨[(S 11 0 21 110 22 22 false 5)],gob ++ [g10,g1,(D []),g3,g11,g4,g5,g6,g12,g7,g8,g9],(.tuple [(.agg [(b 30),(b 0),(b 0),(b 0),(b 0),(b 0),(b 0),z,z,(.int .u16 0),(i 0),(S 15 0 0 5 1 1 false 5),(S 16 0 0 5 1 1 false 5),z,(i 1),(i 1)]),(i 7),(i 0)]),nones 15,[g13,g14]⟩
def e178x1 : Ent := ⟨[(S 11 55 21 110 11 11 false 5)],gob ++ [g10,g1,(D []),g3,g11,g4,g5,g6,g12,g7,g8,g9],(.tuple [(.agg [(b 1),(b 0),(b 0),(b 0),(b 0),(b 0),(b 0),z,z,(.int .u16 0),(i 0),.nilSlice,.nilSlice,z,(i 2),(i 6)]),(i 1),(i 0)]),nones 15,[]⟩
def e178x2 : Ent := ⟨[(S 11 65 21 110 9 9 false 5)],gob ++ [g10,g1,(D []),g3,g11,g4,g5,g6,g12,g7,g8,g9],(.tuple [(.agg [(b 1),(b 0),(b 0),(b 0),(b 0),(b 0),(b 0),z,z,(.int .u16 0),(i 0),.nilSlice,.nilSlice,z,(i 3),(i 2)]),(i 1),(i 0)]),nones 15,[]⟩
def e178x3 : Ent := ⟨[(S 11 90 21 110 4 4 false 5)],gob ++ [g10,g1,(D []),g3,g11,g4,g5,g6,g12,g7,g8,g9],(.tuple [(.agg [(b 28),(b 0),(b 31),(b 0),(b 0),(b 0),(b 0),z,z,(.int .u16 0),(i 0),.nilSlice,.nilSlice,z,(i 4),(i 1)]),(i 2),(i 0)]),nones 15,[]⟩
def e178x4 : Ent := ⟨[(S 11 0 7 40 8 8 false 5)],gob ++ [g10,g1,(D []),g3,g11,g4,g5,g6,g15,g7,g8,g9],(.tuple [(.agg [(b 27),(b 0),(b 0),(b 0),(b 0),(b 0),(b 1),z,z,(.int .u16 0),(i 0),(S 15 0 0 5 1 1 false 5),.nilSlice,z,(i 1),(i 1)]),(i 6),(i 0)]),nones 15,[g16]⟩
def e178x5 : Ent := ⟨[(S 11 0 15 80 16 16 false 5)],gob ++ [g10,g1,(D []),g3,g11,g4,g5,g6,g17,g7,g8,g9],(.tuple [(.agg [(b 29),(b 0),(b 0),(b 0),(b 0),(b 0),(b 0),z,z,(.int .u16 0),(i 0),(S 15 0 0 5 1 1 false 5),.nilSlice,z,(i 1),(i 1)]),(i 2),(i 0)]),nones 15,[g18]⟩
def e178x6 : Ent := ⟨[(S 11 15 15 80 13 13 false 5)],gob ++ [g10,g1,(D []),g3,g11,g4,g5,g6,g17,g7,g8,g9],(.tuple [(.agg [(b 1),(b 0),(b 0),(b 0),(b 0),(b 0),(b 0),z,z,(.int .u16 0),(i 0),.nilSlice,.nilSlice,z,(i 2),(i 1)]),(i 1),(i 0)]),nones 15,[]⟩
def e178x7 : Ent := ⟨[(S 11 70 15 80 2 2 false 5)],gob ++ [g10,g1,(D []),g3,g11,g4,g5,g6,g17,g7,g8,g9],(.tuple [(.agg [(b 1),(b 0),(b 0),(b 0),(b 0),(b 0),(b 0),z,z,(.int .u16 0),(i 0),.nilSlice,.nilSlice,z,(i 6),(i 1)]),(i 1),(i 0)]),nones 15,[]⟩
def e178x8 : Ent := ⟨[(S 11 0 9 50 10 10 false 5)],gob ++ [g10,g1,(D []),g3,g11,g4,g5,g6,g19,g7,g8,g9],(.tuple [(.agg [(b 1),(b 0),(b 0),(b 0),(b 0),(b 0),(b 0),z,z,(.int .u16 0),(i 0),.nilSlice,.nilSlice,z,(i 1),(i 1)]),(i 1),(i 0)]),nones 15,[]⟩
def e178x9 : Ent := ⟨[(S 11 20 9 50 6 6 false 5)],gob ++ [g10,g1,(D []),g3,g11,g4,g5,g6,g19,g7,g8,g9],(.tuple [(.agg [(b 27),(b 0),(b 0),(b 0),(b 0),(b 0),(b 0),z,z,(.int .u16 0),(i 0),(S 15 0 0 5 1 1 false 5),.nilSlice,z,(i 2),(i 4)]),(i 2),(i 0)]),nones 15,[g20]⟩
def e178x10 : Ent := ⟨[(S 11 35 9 50 3 3 false 5)],gob ++ [g10,g1,(D []),g3,g11,g4,g5,g6,g19,g7,g8,g9],(.tuple [(.agg [(b 1),(b 0),(b 0),(b 0),(b 0),(b 0),(b 0),z,z,(.int .u16 0),(i 0),.nilSlice,.nilSlice,z,(i 3),(i 1)]),(i 1),(i 0)]),nones 15,[]⟩
def tbl178 : List Ent := [e178x0, e178x1, e178x2, e178x3, e178x4, e178x5, e178x6, e178x7, e178x8, e178x9, e178x10]
theorem ce178x0 : chkE (tabT tr2) (evalF (tabT tr2) 100000) 178 e178x0 = true := by kernel_rfl
theorem ce178x1 : chkE (tabT tr2) (evalF (tabT tr2) 100000) 178 e178x1 = true := by kernel_rfl
theorem ce178x2 : chkE (tabT tr2) (evalF (tabT tr2) 100000) 178 e178x2 = true := by kernel_rfl
theorem ce178x3 : chkE (tabT tr2) (evalF (tabT tr2) 100000) 178 e178x3 = true := by kernel_rfl
theorem ce178x4 : chkE (tabT tr2) (evalF (tabT tr2) 100000) 178 e178x4 = true := by kernel_rfl
theorem ce178x5 : chkE (tabT tr2) (evalF (tabT tr2) 100000) 178 e178x5 = true := by kernel_rfl
theorem ce178x6 : chkE (tabT tr2) (evalF (tabT tr2) 100000) 178 e178x6 = true := by kernel_rfl
theorem ce178x7 : chkE (tabT tr2) (evalF (tabT tr2) 100000) 178 e178x7 = true := by kernel_rfl
theorem ce178x8 : chkE (tabT tr2) (evalF (tabT tr2) 100000) 178 e178x8 = true := by kernel_rfl
theorem ce178x9 : chkE (tabT tr2) (evalF (tabT tr2) 100000) 178 e178x9 = true := by kernel_rfl
theorem ce178x10 : chkE (tabT tr2) (evalF (tabT tr2) 100000) 178 e178x10 = true := by kernel_rfl
theorem all178 : ∀ E, E ∈ tbl178 → chkE (tabT tr2) (evalF (tabT tr2) 100000) 178 E = true := all_cons (p := fun E => chkE (tabT tr2) (evalF (tabT tr2) 100000) 178 E) ce178x0 (all_cons (p := fun E => chkE (tabT tr2) (evalF (tabT tr2) 100000) 178 E) ce178x1 (all_cons (p := fun E => chkE (tabT tr2) (evalF (tabT tr2) 100000) 178 E) ce178x2 (all_cons (p := fun E => chkE (tabT tr2) (evalF (tabT tr2) 100000) 178 E) ce178x3 (all_cons (p := fun E => chkE (tabT tr2) (evalF (tabT tr2) 100000) 178 E) ce178x4 (all_cons (p := fun E => chkE (tabT tr2) (evalF (tabT tr2) 100000) 178 E) ce178x5 (all_cons (p := fun E => chkE (tabT tr2) (evalF (tabT tr2) 100000) 178 E) ce178x6 (all_cons (p := fun E => chkE (tabT tr2) (evalF (tabT tr2) 100000) 178 E) ce178x7 (all_cons (p := fun E => chkE (tabT tr2) (evalF (tabT tr2) 100000) 178 E) ce178x8 (all_cons (p := fun E => chkE (tabT tr2) (evalF (tabT tr2) 100000) 178 E) ce178x9 (all_cons (p := fun E => chkE (tabT tr2) (evalF (tabT tr2) 100000) 178 E) ce178x10 (fun _ h => by cases h)))))))))))
noncomputable def tl3 : List (Nat × FnImp) := (178, .hook (memoAH memoPre tbl178)) :: tl2
noncomputable def tr3 : Tree FnImp := tr2.set 178 (.hook (memoAH memoPre tbl178))
theorem tr3_ok : treeOf tl3 = tr3 := by kernel_rfl
def e25x0 : Ent := ⟨[(s [108,111,111,112,48,40,65,44,32,35,51,41,10,65,58,32,123,32,110,111,112,10,32,110,111,112,32,125,32,58,101,110,100,108,111,111,112,48,10,106,117,109,112,114,32,114,51,49,10])],gob ++ [g0,g1,(D []),g2,g3,g4,g5,g6,g7,g8,g9],(.tuple [(S 14 0 21 110 22 22 false 5),.nilSlice]),nones 14,[g12]⟩
def e25x1 : Ent := ⟨[(s [105,102,32,40,112,48,41,32,106,117,109,112,32,49,54,10])],gob ++ [g0,g1,(D []),g2,g3,g4,g5,g6,g7,g8,g9],(.tuple [(S 14 0 7 40 8 8 false 5),.nilSlice]),nones 14,[g15]⟩
def e25x2 : Ent := ⟨[(s [99,97,108,108,32,56,10,110,111,112,10,46,115,101,99,116,105,111,110,32,100,97,116,97,10,46,119,111,114,100,32,48,10,46,115,101,99,116,105,111,110,32,99,111,100,101,10,110,111,112])],gob ++ [g0,g1,(D []),g2,g3,g4,g5,g6,g7,g8,g9],(.tuple [(S 14 0 15 80 16 16 false 5),.nilSlice]),nones 14,[g17]⟩
def e25x3 : Ent := ⟨[(s [110,111,112,10,76,58,32,106,117,109,112,32,76,10,110,111,112,10])],gob ++ [g0,g1,(D []),g2,g3,g4,g5,g6,g7,g8,g9],(.tuple [(S 14 0 9 50 10 10 false 5),.nilSlice]),nones 14,[g19]⟩
def tbl25 : List Ent := [e25x0, e25x1, e25x2, e25x3]
theorem ce25x0 : chkE (tabT tr3) (evalF (tabT tr3) 100000) 25 e25x0 = true := by kernel_rfl
theorem ce25x1 : chkE (tabT tr3) (evalF (tabT tr3) 100000) 25 e25x1 = true := by kernel_rfl
theorem ce25x2 : chkE (tabT tr3) (evalF (tabT tr3) 100000) 25 e25x2 = true := by kernel_rfl
theorem ce25x3 : chkE (tabT tr3) (evalF (tabT tr3) 100000) 25 e25x3 = true := by kernel_rfl
theorem all25 : ∀ E, E ∈ tbl25 → chkE (tabT tr3) (evalF (tabT tr3) 100000) 25 E = true := all_cons (p := fun E => chkE (tabT tr3) (evalF (tabT tr3) 100000) 25 E) ce25x0 (all_cons (p := fun E => chkE (tabT tr3) (evalF (tabT tr3) 100000) 25 E) ce25x1 (all_cons (p := fun E => chkE (tabT tr3) (evalF (tabT tr3) 100000) 25 E) ce25x2 (all_cons (p := fun E => chkE (tabT tr3) (evalF (tabT tr3) 100000) 25 E) ce25x3 (fun _ h => by cases h))))
noncomputable def tl4 : List (Nat × FnImp) := (25, .hook (memoAH memoPre tbl25)) :: tl3
noncomputable def tr4 : Tree FnImp := tr3.set 25 (.hook (memoAH memoPre tbl25))
theorem tr4_ok : treeOf tl4 = tr4 := by kernel_rfl
noncomputable def tl5 : List (Nat × FnImp) := (26, .hook (deferH (evalF (tabT tr4) 100000) dfn26)) :: tl4
noncomputable def tr5 : Tree FnImp := tr4.set 26 (.hook (deferH (evalF (tabT tr4) 100000) dfn26))
theorem tr5_ok : treeOf tl5 = tr5 := by kernel_rfl
def e15x0 : Ent := ⟨[(s [108,111,111,112,48,40,65,44,32,35,51,41,10,65,58,32,123,32,110,111,112,10,32,110,111,112,32,125,32,58,101,110,100,108,111,111,112,48,10,106,117,109,112,114,32,114,51,49,10])],gob ++ [g0,g1,(D []),g2,g3,g4,g5,g6,g7,g8,g9],(.tuple [(S 14 0 3 36 4 4 false 9),.nilSlice]),nones 14,[g21,g22,g23,g24,g13,g14]⟩
def e15x1 : Ent := ⟨[(s [105,102,32,40,112,48,41,32,106,117,109,112,32,49,54,10])],gob ++ [g0,g1,(D []),g2,g3,g4,g5,g6,g7,g8,g9],(.tuple [(S 14 0 0 9 1 1 false 9),.nilSlice]),nones 14,[g25,g26,g16]⟩
def e15x2 : Ent := ⟨[(s [99,97,108,108,32,56,10,110,111,112,10,46,115,101,99,116,105,111,110,32,100,97,116,97,10,46,119,111,114,100,32,48,10,46,115,101,99,116,105,111,110,32,99,111,100,101,10,110,111,112])],gob ++ [g0,g1,(D []),g2,g3,g4,g5,g6,g7,g8,g9],(.tuple [(S 14 0 5 54 6 6 false 9),.nilSlice]),nones 14,[g27,g28,g29,g30,g31,g18,g32]⟩
def e15x3 : Ent := ⟨[(s [110,111,112,10,76,58,32,106,117,109,112,32,76,10,110,111,112,10])],gob ++ [g0,g1,(D []),g2,g3,g4,g5,g6,g7,g8,g9],(.tuple [(S 14 0 3 36 4 4 false 9),.nilSlice]),nones 14,[g33,g34,g35,g36,g20]⟩
def tbl15 : List Ent := [e15x0, e15x1, e15x2, e15x3]
theorem ce15x0 : chkE (tabT tr5) (evalF (tabT tr5) 100000) 15 e15x0 = true := by kernel_rfl
theorem ce15x1 : chkE (tabT tr5) (evalF (tabT tr5) 100000) 15 e15x1 = true := by kernel_rfl
theorem ce15x2 : chkE (tabT tr5) (evalF (tabT tr5) 100000) 15 e15x2 = true := by kernel_rfl
theorem ce15x3 : chkE (tabT tr5) (evalF (tabT tr5) 100000) 15 e15x3 = true := by kernel_rfl
theorem all15 : ∀ E, E ∈ tbl15 → chkE (tabT tr5) (evalF (tabT tr5) 100000) 15 E = true := all_cons (p := fun E => chkE (tabT tr5) (evalF (tabT tr5) 100000) 15 E) ce15x0 (all_cons (p := fun E => chkE (tabT tr5) (evalF (tabT tr5) 100000) 15 E) ce15x1 (all_cons (p := fun E => chkE (tabT tr5) (evalF (tabT tr5) 100000) 15 E) ce15x2 (all_cons (p := fun E => chkE (tabT tr5) (evalF (tabT tr5) 100000) 15 E) ce15x3 (fun _ h => by cases h))))
noncomputable def tl6 : List (Nat × FnImp) := (15, .hook (memoAH memoPre tbl15)) :: tl5
noncomputable def tr6 : Tree FnImp := tr5.set 15 (.hook (memoAH memoPre tbl15))
theorem tr6_ok : treeOf tl6 = tr6 := by kernel_rfl
def e145x0 : Ent := ⟨[(.agg [(b 30),(b 0),(b 0),(b 0),(b 0),(b 0),(b 0),z,z,(.int .u16 3),(i 4)]),(w 0)],gob ++ [g0,g1,(D []),g2,g3,g4,g5,g6,g7,g8,g9],(.tuple [(w 2013267971),(w 0),y]),nones 14,[]⟩
def e145x1 : Ent := ⟨[(.agg [(b 1),(b 0),(b 0),(b 0),(b 0),(b 0),(b 0),z,z,(.int .u16 0),(i 0)]),(w 4)],gob ++ [g0,g1,(D []),g2,g3,g4,g5,g6,g7,g8,g9],(.tuple [(w 67108864),(w 0),y]),nones 14,[]⟩
def e145x2 : Ent := ⟨[(.agg [(b 28),(b 0),(b 31),(b 0),(b 0),(b 0),(b 0),z,z,(.int .u16 0),(i 0)]),(w 12)],gob ++ [g0,g1,(D []),g2,g3,g4,g5,g6,g7,g8,g9],(.tuple [(w 1881079808),(w 0),y]),nones 14,[]⟩
def e145x3 : Ent := ⟨[(.agg [(b 27),(b 0),(b 0),(b 0),(b 0),(b 0),(b 1),z,z,(.int .u16 0),(i 16)]),(w 0)],gob ++ [g0,g1,(D []),g2,g3,g4,g5,g6,g7,g8,g9],(.tuple [(w 1820327940),(w 0),y]),nones 14,[]⟩
def e145x4 : Ent := ⟨[(.agg [(b 29),(b 0),(b 0),(b 0),(b 0),(b 0),(b 0),z,z,(.int .u16 0),(i 8)]),(w 0)],gob ++ [g0,g1,(D []),g2,g3,g4,g5,g6,g7,g8,g9],(.tuple [(w 1946157058),(w 0),y]),nones 14,[]⟩
def e145x5 : Ent := ⟨[(.agg [(b 1),(b 0),(b 0),(b 0),(b 0),(b 0),(b 0),z,z,(.int .u16 0),(i 0)]),(w 12)],gob ++ [g0,g1,(D []),g2,g3,g4,g5,g6,g7,g8,g9],(.tuple [(w 67108864),(w 0),y]),nones 14,[]⟩
def e145x6 : Ent := ⟨[(.agg [(b 1),(b 0),(b 0),(b 0),(b 0),(b 0),(b 0),z,z,(.int .u16 0),(i 0)]),(w 0)],gob ++ [g0,g1,(D []),g2,g3,g4,g5,g6,g7,g8,g9],(.tuple [(w 67108864),(w 0),y]),nones 14,[]⟩
def e145x7 : Ent := ⟨[(.agg [(b 27),(b 0),(b 0),(b 0),(b 0),(b 0),(b 0),z,z,(.int .u16 0),(i 4)]),(w 4)],gob ++ [g0,g1,(D []),g2,g3,g4,g5,g6,g7,g8,g9],(.tuple [(w 1811939328),(w 0),y]),nones 14,[]⟩
def e145x8 : Ent := ⟨[(.agg [(b 1),(b 0),(b 0),(b 0),(b 0),(b 0),(b 0),z,z,(.int .u16 0),(i 0)]),(w 8)],gob ++ [g0,g1,(D []),g2,g3,g4,g5,g6,g7,g8,g9],(.tuple [(w 67108864),(w 0),y]),nones 14,[]⟩
def tbl145 : List Ent := [e145x0, e145x1, e145x2, e145x3, e145x4, e145x5, e145x6, e145x7, e145x8]
theorem ce145x0 : chkE (tabT tr6) (evalF (tabT tr6) 100000) 145 e145x0 = true := by kernel_rfl
theorem ce145x1 : chkE (tabT tr6) (evalF (tabT tr6) 100000) 145 e145x1 = true := by kernel_rfl
theorem ce145x2 : chkE (tabT tr6) (evalF (tabT tr6) 100000) 145 e145x2 = true := by kernel_rfl
theorem ce145x3 : chkE (tabT tr6) (evalF (tabT tr6) 100000) 145 e145x3 = true := by kernel_rfl
theorem ce145x4 : chkE (tabT tr6) (evalF (tabT tr6) 100000) 145 e145x4 = true := by kernel_rfl
theorem ce145x5 : chkE (tabT tr6) (evalF (tabT tr6) 100000) 145 e145x5 = true := by kernel_rfl
theorem ce145x6 : chkE (tabT tr6) (evalF (tabT tr6) 100000) 145 e145x6 = true := by kernel_rfl
theorem ce145x7 : chkE (tabT tr6) (evalF (tabT tr6) 100000) 145 e145x7 = true := by kernel_rfl
theorem ce145x8 : chkE (tabT tr6) (evalF (tabT tr6) 100000) 145 e145x8 = true := by kernel_rfl
theorem all145 : ∀ E, E ∈ tbl145 → chkE (tabT tr6) (evalF (tabT tr6) 100000) 145 E = true := all_cons (p := fun E => chkE (tabT tr6) (evalF (tabT tr6) 100000) 145 E) ce145x0 (all_cons (p := fun E => chkE (tabT tr6) (evalF (tabT tr6) 100000) 145 E) ce145x1 (all_cons (p := fun E => chkE (tabT tr6) (evalF (tabT tr6) 100000) 145 E) ce145x2 (all_cons (p := fun E => chkE (tabT tr6) (evalF (tabT tr6) 100000) 145 E) ce145x3 (all_cons (p := fun E => chkE (tabT tr6) (evalF (tabT tr6) 100000) 145 E) ce145x4 (all_cons (p := fun E => chkE (tabT tr6) (evalF (tabT tr6) 100000) 145 E) ce145x5 (all_cons (p := fun E => chkE (tabT tr6) (evalF (tabT tr6) 100000) 145 E) ce145x6 (all_cons (p := fun E => chkE (tabT tr6) (evalF (tabT tr6) 100000) 145 E) ce145x7 (all_cons (p := fun E => chkE (tabT tr6) (evalF (tabT tr6) 100000) 145 E) ce145x8 (fun _ h => by cases h)))))))))
noncomputable def tl7 : List (Nat × FnImp) := (145, .hook (memoAH memoPre tbl145)) :: tl6
noncomputable def tr7 : Tree FnImp := tr6.set 145 (.hook (memoAH memoPre tbl145))
theorem tr7_ok : treeOf tl7 = tr7 := by kernel_rfl
def e106x0 : Ent := ⟨[(.agg [(S 11 0 0 11 1 1 false 11),z,z,z,z])],gob ++ [g10,g1,(D []),g3,g11,g4,g5,g6,g37,g7,g8,g9],(i 0),nones 15,[]⟩
def e106x1 : Ent := ⟨[(.agg [(S 11 0 1 22 2 2 false 11),y,z,z,z])],gob ++ [g10,g1,(D []),g3,g11,g4,g5,g6,g38,g7,g8,g9],(i 0),nones 15,[]⟩
def e106x2 : Ent := ⟨[(.agg [(S 11 0 0 11 1 1 false 11),z,z,z,z])],gob ++ [g10,g1,(D []),g3,g11,g4,g5,g6,g39,g7,g8,g9],(i 0),nones 15,[]⟩
def e106x3 : Ent := ⟨[(.agg [(S 11 0 1 22 2 2 false 11),y,z,y,z])],gob ++ [g10,g1,(D []),g3,g11,g4,g5,g6,g38,g7,g8,g9],(i 0),nones 15,[]⟩
def e106x4 : Ent := ⟨[(.agg [(S 11 0 0 11 1 1 false 11),z,z,z,z])],gob ++ [g10,g1,(D []),g3,g11,g4,g5,g6,g40,g7,g8,g9],(i 0),nones 15,[]⟩
def e106x5 : Ent := ⟨[(.agg [(S 11 0 0 11 1 1 false 11),z,z,z,z])],gob ++ [g10,g1,(D []),g3,g11,g4,g5,g6,g41,g7,g8,g9],(i 0),nones 15,[]⟩
def e106x6 : Ent := ⟨[(.agg [(S 11 0 0 11 1 1 false 11),z,z,z,z])],gob ++ [g10,g1,(D []),g3,g11,g4,g5,g6,g42,g7,g8,g9],(i 0),nones 15,[]⟩
def e106x7 : Ent := ⟨[(.agg [(S 11 0 0 11 1 1 false 11),z,z,z,z])],gob ++ [g10,g1,(D []),g3,g11,g4,g5,g6,g43,g7,g8,g9],(i 0),nones 15,[]⟩
def tbl106 : List Ent := [e106x0, e106x1, e106x2, e106x3, e106x4, e106x5, e106x6, e106x7]
theorem ce106x0 : chkE (tabT tr7) (evalF (tabT tr7) 100000) 106 e106x0 = true := by kernel_rfl
theorem ce106x1 : chkE (tabT tr7) (evalF (tabT tr7) 100000) 106 e106x1 = true := by kernel_rfl
theorem ce106x2 : chkE (tabT tr7) (evalF (tabT tr7) 100000) 106 e106x2 = true := by kernel_rfl
theorem ce106x3 : chkE (tabT tr7) (evalF (tabT tr7) 100000) 106 e106x3 = true := by kernel_rfl
theorem ce106x4 : chkE (tabT tr7) (evalF (tabT tr7) 100000) 106 e106x4 = true := by kernel_rfl
theorem ce106x5 : chkE (tabT tr7) (evalF (tabT tr7) 100000) 106 e106x5 = true := by kernel_rfl
theorem ce106x6 : chkE (tabT tr7) (evalF (tabT tr7) 100000) 106 e106x6 = true := by kernel_rfl
theorem ce106x7 : chkE (tabT tr7) (evalF (tabT tr7) 100000) 106 e106x7 = true := by kernel_rfl
theorem all106 : ∀ E, E ∈ tbl106 → chkE (tabT tr7) (evalF (tabT tr7) 100000) 106 E = true := all_cons (p := fun E => chkE (tabT tr7) (evalF (tabT tr7) 100000) 106 E) ce106x0 (all_cons (p := fun E => chkE (tabT tr7) (evalF (tabT tr7) 100000) 106 E) ce106x1 (all_cons (p := fun E => chkE (tabT tr7) (evalF (tabT tr7) 100000) 106 E) ce106x2 (all_cons (p := fun E => chkE (tabT tr7) (evalF (tabT tr7) 100000) 106 E) ce106x3 (all_cons (p := fun E => chkE (tabT tr7) (evalF (tabT tr7) 100000) 106 E) ce106x4 (all_cons (p := fun E => chkE (tabT tr7) (evalF (tabT tr7) 100000) 106 E) ce106x5 (all_cons (p := fun E => chkE (tabT tr7) (evalF (tabT tr7) 100000) 106 E) ce106x6 (all_cons (p := fun E => chkE (tabT tr7) (evalF (tabT tr7) 100000) 106 E) ce106x7 (fun _ h => by cases h))))))))
noncomputable def tl8 : List (Nat × FnImp) := (106, .hook (memoAH memoPre tbl106)) :: tl7
noncomputable def tr8 : Tree FnImp := tr7.set 106 (.hook (memoAH memoPre tbl106))
theorem tr8_ok : treeOf tl8 = tr8 := by kernel_rfl
def e70x0 : Ent := ⟨[(.agg [(S 11 0 0 11 1 1 false 11),z,z,z,z]),(w 0)],gob ++ [g10,g1,(D []),g3,g11,g4,g5,g6,g37,g7,g8,g9],(.tuple [(S 15 0 0 1 1 1 false 1),(i 0)]),nones 15,[(C [(w 2013317123)])]⟩
def e70x1 : Ent := ⟨[(.agg [(S 11 0 1 22 2 2 false 11),y,z,z,z]),(w 4)],gob ++ [g10,g1,(D []),g3,g11,g4,g5,g6,g38,g7,g8,g9],(.tuple [(S 15 0 1 2 2 2 false 1),(i 0)]),nones 15,[(.cells [(w 67141632),(w 67158016)] 1 1 false)]⟩
def e70x2 : Ent := ⟨[(.agg [(S 11 0 0 11 1 1 false 11),z,z,z,z]),(w 12)],gob ++ [g10,g1,(D []),g3,g11,g4,g5,g6,g39,g7,g8,g9],(.tuple [(S 15 0 0 1 1 1 false 1),(i 0)]),nones 15,[(C [(w 1881128960)])]⟩
def e70x3 : Ent := ⟨[(.agg [(S 11 0 0 11 1 1 false 11),z,z,z,z]),(w 0)],gob ++ [g10,g1,(D []),g3,g11,g4,g5,g6,g40,g7,g8,g9],(.tuple [(S 15 0 0 1 1 1 false 1),(i 0)]),nones 15,[(C [(w 1820377092)])]⟩
def e70x4 : Ent := ⟨[(.agg [(S 11 0 0 11 1 1 false 11),z,z,z,z]),(w 0)],gob ++ [g10,g1,(D []),g3,g11,g4,g5,g6,g41,g7,g8,g9],(.tuple [(S 15 0 0 1 1 1 false 1),(i 0)]),nones 15,[(C [(w 1946206210)])]⟩
def e70x5 : Ent := ⟨[(.agg [(S 11 0 0 11 1 1 false 11),z,z,z,z]),(w 4)],gob ++ [g10,g1,(D []),g3,g11,g4,g5,g6,g42,g7,g8,g9],(.tuple [(S 15 0 0 1 1 1 false 1),(i 0)]),nones 15,[g44]⟩
def e70x6 : Ent := ⟨[(.agg [(S 11 0 0 11 1 1 false 11),z,z,z,z]),(w 12)],gob ++ [g10,g1,(D []),g3,g11,g4,g5,g6,g42,g7,g8,g9],(.tuple [(S 15 0 0 1 1 1 false 1),(i 0)]),nones 15,[g44]⟩
def e70x7 : Ent := ⟨[(.agg [(S 11 0 0 11 1 1 false 11),z,z,z,z]),(w 0)],gob ++ [g10,g1,(D []),g3,g11,g4,g5,g6,g42,g7,g8,g9],(.tuple [(S 15 0 0 1 1 1 false 1),(i 0)]),nones 15,[g44]⟩
def e70x8 : Ent := ⟨[(.agg [(S 11 0 0 11 1 1 false 11),z,z,z,z]),(w 4)],gob ++ [g10,g1,(D []),g3,g11,g4,g5,g6,g43,g7,g8,g9],(.tuple [(S 15 0 0 1 1 1 false 1),(i 0)]),nones 15,[(C [(w 1811988480)])]⟩
def e70x9 : Ent := ⟨[(.agg [(S 11 0 0 11 1 1 false 11),z,z,z,z]),(w 8)],gob ++ [g10,g1,(D []),g3,g11,g4,g5,g6,g42,g7,g8,g9],(.tuple [(S 15 0 0 1 1 1 false 1),(i 0)]),nones 15,[g44]⟩
def tbl70 : List Ent := [e70x0, e70x1, e70x2, e70x3, e70x4, e70x5, e70x6, e70x7, e70x8, e70x9]
theorem ce70x0 : chkE (tabT tr8) (evalF (tabT tr8) 100000) 70 e70x0 = true := by kernel_rfl
theorem ce70x1 : chkE (tabT tr8) (evalF (tabT tr8) 100000) 70 e70x1 = true := by kernel_rfl
theorem ce70x2 : chkE (tabT tr8) (evalF (tabT tr8) 100000) 70 e70x2 = true := by kernel_rfl
theorem ce70x3 : chkE (tabT tr8) (evalF (tabT tr8) 100000) 70 e70x3 = true := by kernel_rfl
theorem ce70x4 : chkE (tabT tr8) (evalF (tabT tr8) 100000) 70 e70x4 = true := by kernel_rfl
theorem ce70x5 : chkE (tabT tr8) (evalF (tabT tr8) 100000) 70 e70x5 = true := by kernel_rfl
theorem ce70x6 : chkE (tabT tr8) (evalF (tabT tr8) 100000) 70 e70x6 = true := by kernel_rfl
theorem ce70x7 : chkE (tabT tr8) (evalF (tabT tr8) 100000) 70 e70x7 = true := by kernel_rfl
theorem ce70x8 : chkE (tabT tr8) (evalF (tabT tr8) 100000) 70 e70x8 = true := by kernel_rfl
theorem ce70x9 : chkE (tabT tr8) (evalF (tabT tr8) 100000) 70 e70x9 = true := by kernel_rfl
theorem all70 : ∀ E, E ∈ tbl70 → chkE (tabT tr8) (evalF (tabT tr8) 100000) 70 E = true := all_cons (p := fun E => chkE (tabT tr8) (evalF (tabT tr8) 100000) 70 E) ce70x0 (all_cons (p := fun E => chkE (tabT tr8) (evalF (tabT tr8) 100000) 70 E) ce70x1 (all_cons (p := fun E => chkE (tabT tr8) (evalF (tabT tr8) 100000) 70 E) ce70x2 (all_cons (p := fun E => chkE (tabT tr8) (evalF (tabT tr8) 100000) 70 E) ce70x3 (all_cons (p := fun E => chkE (tabT tr8) (evalF (tabT tr8) 100000) 70 E) ce70x4 (all_cons (p := fun E => chkE (tabT tr8) (evalF (tabT tr8) 100000) 70 E) ce70x5 (all_cons (p := fun E => chkE (tabT tr8) (evalF (tabT tr8) 100000) 70 E) ce70x6 (all_cons (p := fun E => chkE (tabT tr8) (evalF (tabT tr8) 100000) 70 E) ce70x7 (all_cons (p := fun E => chkE (tabT tr8) (evalF (tabT tr8) 100000) 70 E) ce70x8 (all_cons (p := fun E => chkE (tabT tr8) (evalF (tabT tr8) 100000) 70 E) ce70x9 (fun _ h => by cases h))))))))))
noncomputable def tl9 : List (Nat × FnImp) := (70, .hook (memoAH memoPre tbl70)) :: tl8
noncomputable def tr9 : Tree FnImp := tr8.set 70 (.hook (memoAH memoPre tbl70))
theorem tr9_ok : treeOf tl9 = tr9 := by kernel_rfl
def e16x0 : Ent := ⟨[(S 11 0 3 36 4 4 false 9)],gob ++ [g10,g1,(D []),g3,g11,g4,g5,g6,g21,g7,g8,g9,g22,g23,g24,g13,g14],(.tuple [(.agg [(S 20 0 0 4 4 4 true 1),(S 21 0 0 20 4 4 true 5),(i 16),(i 2),(i 1),(i 1)]),.nilSlice]),nones 20,[(C [(i 0),(i 4),(i 4),(i 12)]),(C [(S 22 0 0 11 1 1 false 11),z,z,z,z,.nilSlice,z,z,z,z,(S 23 0 1 22 2 2 false 11),y,z,z,z,(S 24 0 0 11 1 1 false 11),z,z,z,z]),g37,g38,g39]⟩
def e16x1 : Ent := ⟨[(S 11 0 0 9 1 1 false 9)],gob ++ [g10,g1,(D []),g3,g11,g4,g5,g6,g25,g7,g8,g9,g26,g16],(.tuple [(.agg [(S 17 0 0 1 1 1 true 1),(S 18 0 0 5 1 1 true 5),(i 4),(i 1),(i 1),(i 0)]),.nilSlice]),nones 17,[(C [(i 0)]),(C [(S 19 0 0 11 1 1 false 11),z,z,z,z]),g40]⟩
def e16x2 : Ent := ⟨[(S 11 0 5 54 6 6 false 9)],gob ++ [g10,g1,(D []),g3,g11,g4,g5,g6,g27,g7,g8,g9,g28,g29,g30,g31,g18,g32],(.tuple [(.agg [(S 21 0 0 6 6 6 true 1),(S 22 0 0 30 6 6 true 5),(i 16),(i 1),(i 1),(i 0)]),.nilSlice]),nones 21,[(C [(i 0),(i 4),(i 8),(i 8),(i 12),(i 12)]),(C [(S 23 0 0 11 1 1 false 11),z,z,z,z,(S 24 0 0 11 1 1 false 11),z,z,z,z,.nilSlice,z,z,z,z,.nilSlice,z,z,z,z,.nilSlice,z,z,z,z,(S 25 0 0 11 1 1 false 11),z,z,z,z]),g41,g42,g42]⟩
def e16x3 : Ent := ⟨[(S 11 0 3 36 4 4 false 9)],gob ++ [g10,g1,(D []),g3,g11,g4,g5,g6,g33,g7,g8,g9,g34,g35,g36,g20],(.tuple [(.agg [(S 19 0 0 4 4 4 true 1),(S 20 0 0 20 4 4 true 5),(i 12),(i 1),(i 1),(i 0)]),.nilSlice]),nones 19,[(C [(i 0),(i 4),(i 4),(i 8)]),(C [(S 21 0 0 11 1 1 false 11),z,z,z,z,.nilSlice,z,z,z,z,(S 22 0 0 11 1 1 false 11),z,z,z,z,(S 23 0 0 11 1 1 false 11),z,z,z,z]),g42,g43,g42]⟩
def tbl16 : List Ent := [e16x0, e16x1, e16x2, e16x3]
theorem ce16x0 : chkE (tabT tr9) (evalF (tabT tr9) 100000) 16 e16x0 = true := by kernel_rfl
theorem ce16x1 : chkE (tabT tr9) (evalF (tabT tr9) 100000) 16 e16x1 = true := by kernel_rfl
theorem ce16x2 : chkE (tabT tr9) (evalF (tabT tr9) 100000) 16 e16x2 = true := by kernel_rfl
theorem ce16x3 : chkE (tabT tr9) (evalF (tabT tr9) 100000) 16 e16x3 = true := by kernel_rfl
theorem all16 : ∀ E, E ∈ tbl16 → chkE (tabT tr9) (evalF (tabT tr9) 100000) 16 E = true := all_cons (p := fun E => chkE (tabT tr9) (evalF (tabT tr9) 100000) 16 E) ce16x0 (all_cons (p := fun E => chkE (tabT tr9) (evalF (tabT tr9) 100000) 16 E) ce16x1 (all_cons (p := fun E => chkE (tabT tr9) (evalF (tabT tr9) 100000) 16 E) ce16x2 (all_cons (p := fun E => chkE (tabT tr9) (evalF (tabT tr9) 100000) 16 E) ce16x3 (fun _ h => by cases h))))
noncomputable def tl10 : List (Nat × FnImp) := (16, .hook (memoAH memoPre tbl16)) :: tl9
noncomputable def tr10 : Tree FnImp := tr9.set 16 (.hook (memoAH memoPre tbl16))
theorem tr10_ok : treeOf tl10 = tr10 := by kernel_rfl
def e5x0 : Ent := ⟨[(s [108,111,111,112,48,40,65,44,32,35,51,41,10,65,58,32,123,32,110,111,112,10,32,110,111,112,32,125,32,58,101,110,100,108,111,111,112,48,10,106,117,109,112,114,32,114,51,49,10])],gob ++ [g0,g1,(D []),g2,g3,g4,g5,g6,g7,g8,g9],(.tuple [(.agg [(w 0),(S 14 0 2 16 16 16 false 1),(S 15 0 0 3 1 1 false 3),(S 16 0 2 3 3 3 false 1),(S 17 0 2 15 3 3 false 5),(i 2),(i 1),(i 1)]),.nilSlice]),nones 14,[g45,g46,g47,(.cells [(S 18 0 0 11 1 1 false 11),z,z,z,z,(S 19 0 1 22 2 2 false 11),y,z,z,z,(S 20 0 0 11 1 1 false 11),z,z,z,z] 0 2 false),g37,g38,g39]⟩
def e5x1 : Ent := ⟨[(s [105,102,32,40,112,48,41,32,106,117,109,112,32,49,54,10])],gob ++ [g0,g1,(D []),g2,g3,g4,g5,g6,g7,g8,g9],(.tuple [(.agg [(w 0),(S 14 0 0 4 4 4 false 1),(S 15 0 0 3 1 1 false 3),(S 16 0 0 1 1 1 false 1),(S 17 0 0 5 1 1 false 5),(i 1),(i 1),(i 0)]),.nilSlice]),nones 14,[g48,g49,(C [(w 0)]),(C [(S 18 0 0 11 1 1 false 11),z,z,z,z]),g40]⟩
def e5x2 : Ent := ⟨[(s [99,97,108,108,32,56,10,110,111,112,10,46,115,101,99,116,105,111,110,32,100,97,116,97,10,46,119,111,114,100,32,48,10,46,115,101,99,116,105,111,110,32,99,111,100,101,10,110,111,112])],gob ++ [g0,g1,(D []),g2,g3,g4,g5,g6,g7,g8,g9],(.tuple [(.agg [(w 0),(S 14 0 3 16 16 16 false 1),(S 15 0 2 9 3 3 false 3),(S 16 0 2 3 3 3 false 1),(S 17 0 2 15 3 3 false 5),(i 1),(i 1),(i 0)]),.nilSlice]),nones 14,[g50,g51,g47,g52,g41,g42,g42]⟩
def e5x3 : Ent := ⟨[(s [110,111,112,10,76,58,32,106,117,109,112,32,76,10,110,111,112,10])],gob ++ [g0,g1,(D []),g2,g3,g4,g5,g6,g7,g8,g9],(.tuple [(.agg [(w 0),(S 14 0 2 12 12 12 false 1),(S 15 0 0 3 1 1 false 3),(S 16 0 2 3 3 3 false 1),(S 17 0 2 15 3 3 false 5),(i 1),(i 1),(i 0)]),.nilSlice]),nones 14,[g53,g54,(.cells [(w 0),(w 4),(w 8)] 0 2 false),g52,g42,g43,g42]⟩
def tbl5 : List Ent := [e5x0, e5x1, e5x2, e5x3]
theorem ce5x0 : chkE (tabT tr10) (evalF (tabT tr10) 100000) 5 e5x0 = true := by kernel_rfl
theorem ce5x1 : chkE (tabT tr10) (evalF (tabT tr10) 100000) 5 e5x1 = true := by kernel_rfl
theorem ce5x2 : chkE (tabT tr10) (evalF (tabT tr10) 100000) 5 e5x2 = true := by kernel_rfl
theorem ce5x3 : chkE (tabT tr10) (evalF (tabT tr10) 100000) 5 e5x3 = true := by kernel_rfl
theorem all5 : ∀ E, E ∈ tbl5 → chkE (tabT tr10) (evalF (tabT tr10) 100000) 5 E = true := all_cons (p := fun E => chkE (tabT tr10) (evalF (tabT tr10) 100000) 5 E) ce5x0 (all_cons (p := fun E => chkE (tabT tr10) (evalF (tabT tr10) 100000) 5 E) ce5x1 (all_cons (p := fun E => chkE (tabT tr10) (evalF (tabT tr10) 100000) 5 E) ce5x2 (all_cons (p := fun E => chkE (tabT tr10) (evalF (tabT tr10) 100000) 5 E) ce5x3 (fun _ h => by cases h))))
noncomputable def tl11 : List (Nat × FnImp) := (5, .hook (memoAH memoPre tbl5)) :: tl10
noncomputable def tr11 : Tree FnImp := tr10.set 5 (.hook (memoAH memoPre tbl5))
theorem tr11_ok : treeOf tl11 = tr11 := by kernel_rfl
def e23x0 : Ent := ⟨[(.agg [(w 0),(i 1),(S 11 0 0 11 1 1 false 11),z,z,z,z]),(.agg [(S 12 0 0 1 1 1 false 1),.nilSlice])],gob ++ [g55,g1,(D []),g11,g56,g4,g5,g6,g37,(C [(w 4)]),g7,g8,g9],(.agg [(w 0),(i 1),(S 16 0 0 1 1 1 false 1),z]),nones 16,[(C [(w 4)])]⟩
def e23x1 : Ent := ⟨[(.agg [(w 4),(i 2),(S 11 0 1 22 2 2 false 11),y,z,y,z]),(.agg [(S 12 0 0 1 1 1 false 1),.nilSlice])],gob ++ [g55,g1,(D []),g11,g56,g4,g5,g6,g38,(C [(w 4)]),g7,g8,g9],(.agg [(w 4),(i 2),(S 16 0 1 2 2 2 false 1),z]),nones 16,[g57]⟩
def e23x2 : Ent := ⟨[(.agg [(w 12),(i 1),(S 11 0 0 11 1 1 false 11),z,z,z,z]),(.agg [(S 12 0 0 1 1 1 false 1),.nilSlice])],gob ++ [g55,g1,(D []),g11,g56,g4,g5,g6,g39,(C [(w 4)]),g7,g8,g9],(.agg [(w 12),(i 1),.nilSlice,y]),nones 16,[]⟩
def e23x3 : Ent := ⟨[(.agg [(w 0),(i 1),(S 11 0 0 11 1 1 false 11),z,z,z,z]),(.agg [.nilSlice,.nilSlice])],gob ++ [g10,g1,(D []),g3,g11,g4,g5,g6,g40,g7,g8,g9],(.agg [(w 0),(i 1),(S 15 0 1 2 2 2 false 1),z]),nones 15,[g58]⟩
def e23x4 : Ent := ⟨[(.agg [(w 0),(i 1),(S 11 0 0 11 1 1 false 11),z,z,z,z]),(.agg [.nilSlice,.nilSlice])],gob ++ [g10,g1,(D []),g3,g11,g4,g5,g6,g41,g7,g8,g9],(.agg [(w 0),(i 1),(S 15 0 0 1 1 1 false 1),z]),nones 15,[(C [(w 8)])]⟩
def e23x5 : Ent := ⟨[(.agg [(w 4),(i 1),(S 11 0 0 11 1 1 false 11),z,z,z,z]),(.agg [.nilSlice,.nilSlice])],gob ++ [g10,g1,(D []),g3,g11,g4,g5,g6,g42,g7,g8,g9],(.agg [(w 4),(i 1),(S 15 0 0 1 1 1 false 1),z]),nones 15,[(C [(w 8)])]⟩
def e23x6 : Ent := ⟨[(.agg [(w 12),(i 1),(S 11 0 0 11 1 1 false 11),z,z,z,z]),(.agg [.nilSlice,.nilSlice])],gob ++ [g10,g1,(D []),g3,g11,g4,g5,g6,g42,g7,g8,g9],(.agg [(w 12),(i 1),(S 15 0 0 1 1 1 false 1),z]),nones 15,[(C [(w 16)])]⟩
def e23x7 : Ent := ⟨[(.agg [(w 0),(i 1),(S 11 0 0 11 1 1 false 11),z,z,z,z]),(.agg [.nilSlice,.nilSlice])],gob ++ [g10,g1,(D []),g3,g11,g4,g5,g6,g42,g7,g8,g9],(.agg [(w 0),(i 1),(S 15 0 0 1 1 1 false 1),z]),nones 15,[(C [(w 4)])]⟩
def e23x8 : Ent := ⟨[(.agg [(w 4),(i 1),(S 11 0 0 11 1 1 false 11),z,z,z,z]),(.agg [.nilSlice,.nilSlice])],gob ++ [g10,g1,(D []),g3,g11,g4,g5,g6,g43,g7,g8,g9],(.agg [(w 4),(i 1),(S 15 0 0 1 1 1 false 1),z]),nones 15,[(C [(w 4)])]⟩
def e23x9 : Ent := ⟨[(.agg [(w 8),(i 1),(S 11 0 0 11 1 1 false 11),z,z,z,z]),(.agg [.nilSlice,.nilSlice])],gob ++ [g10,g1,(D []),g3,g11,g4,g5,g6,g42,g7,g8,g9],(.agg [(w 8),(i 1),(S 15 0 0 1 1 1 false 1),z]),nones 15,[(C [(w 12)])]⟩
def tbl23 : List Ent := [e23x0, e23x1, e23x2, e23x3, e23x4, e23x5, e23x6, e23x7, e23x8, e23x9]
theorem ce23x0 : chkE (tabT tr11) (evalF (tabT tr11) 100000) 23 e23x0 = true := by kernel_rfl
theorem ce23x1 : chkE (tabT tr11) (evalF (tabT tr11) 100000) 23 e23x1 = true := by kernel_rfl
theorem ce23x2 : chkE (tabT tr11) (evalF (tabT tr11) 100000) 23 e23x2 = true := by kernel_rfl
theorem ce23x3 : chkE (tabT tr11) (evalF (tabT tr11) 100000) 23 e23x3 = true := by kernel_rfl
theorem ce23x4 : chkE (tabT tr11) (evalF (tabT tr11) 100000) 23 e23x4 = true := by kernel_rfl
theorem ce23x5 : chkE (tabT tr11) (evalF (tabT tr11) 100000) 23 e23x5 = true := by kernel_rfl
theorem ce23x6 : chkE (tabT tr11) (evalF (tabT tr11) 100000) 23 e23x6 = true := by kernel_rfl
theorem ce23x7 : chkE (tabT tr11) (evalF (tabT tr11) 100000) 23 e23x7 = true := by kernel_rfl
theorem ce23x8 : chkE (tabT tr11) (evalF (tabT tr11) 100000) 23 e23x8 = true := by kernel_rfl
theorem ce23x9 : chkE (tabT tr11) (evalF (tabT tr11) 100000) 23 e23x9 = true := by kernel_rfl
theorem all23 : ∀ E, E ∈ tbl23 → chkE (tabT tr11) (evalF (tabT tr11) 100000) 23 E = true := all_cons (p := fun E => chkE (tabT tr11) (evalF (tabT tr11) 100000) 23 E) ce23x0 (all_cons (p := fun E => chkE (tabT tr11) (evalF (tabT tr11) 100000) 23 E) ce23x1 (all_cons (p := fun E => chkE (tabT tr11) (evalF (tabT tr11) 100000) 23 E) ce23x2 (all_cons (p := fun E => chkE (tabT tr11) (evalF (tabT tr11) 100000) 23 E) ce23x3 (all_cons (p := fun E => chkE (tabT tr11) (evalF (tabT tr11) 100000) 23 E) ce23x4 (all_cons (p := fun E => chkE (tabT tr11) (evalF (tabT tr11) 100000) 23 E) ce23x5 (all_cons (p := fun E => chkE (tabT tr11) (evalF (tabT tr11) 100000) 23 E) ce23x6 (all_cons (p := fun E => chkE (tabT tr11) (evalF (tabT tr11) 100000) 23 E) ce23x7 (all_cons (p := fun E => chkE (tabT tr11) (evalF (tabT tr11) 100000) 23 E) ce23x8 (all_cons (p := fun E => chkE (tabT tr11) (evalF (tabT tr11) 100000) 23 E) ce23x9 (fun _ h => by cases h))))))))))
noncomputable def tl12 : List (Nat × FnImp) := (23, .hook (memoAH memoPre tbl23)) :: tl11
noncomputable def tr12 : Tree FnImp := tr11.set 23 (.hook (memoAH memoPre tbl23))
theorem tr12_ok : treeOf tl12 = tr12 := by kernel_rfl
def e9x0 : Ent := ⟨[(.agg [(w 0),(S 11 0 2 16 16 16 false 1),(S 12 0 0 3 1 1 false 3)])],gob ++ [g55,g1,(D []),g11,g56,g4,g5,g6,g45,g46,g7,g8,g9],(.tuple [(S 16 0 2 12 3 3 false 4),(i 0)]),nones 16,[(.cells [(w 0),(i 1),(S 17 0 0 1 1 1 false 1),z,(w 4),(i 2),(S 18 0 1 2 2 2 false 1),z,(w 12),(i 1),.nilSlice,y] 0 2 false),(C [(w 4)]),g57]⟩
def e9x1 : Ent := ⟨[(.agg [(w 0),(S 11 0 0 4 4 4 false 1),(S 12 0 0 3 1 1 false 3)])],gob ++ [g55,g1,(D []),g11,g56,g4,g5,g6,g48,g49,g7,g8,g9],(.tuple [(S 16 0 0 4 1 1 false 4),(i 0)]),nones 16,[(C [(w 0),(i 1),(S 17 0 1 2 2 2 false 1),z]),g58]⟩
def e9x2 : Ent := ⟨[(.agg [(w 0),(S 11 0 3 16 16 16 false 1),(S 12 0 2 9 3 3 false 3)])],gob ++ [g55,g1,(D []),g11,g56,g4,g5,g6,g50,g51,g7,g8,g9],(.tuple [(S 16 0 2 12 3 3 false 4),(i 0)]),nones 16,[(.cells [(w 0),(i 1),(S 17 0 0 1 1 1 false 1),z,(w 4),(i 1),(S 18 0 0 1 1 1 false 1),z,(w 12),(i 1),(S 19 0 0 1 1 1 false 1),z] 0 2 false),(C [(w 8)]),(C [(w 8)]),(C [(w 16)])]⟩
def e9x3 : Ent := ⟨[(.agg [(w 1),.nilSlice,.nilSlice])],gob ++ [g0,g1,(D []),g2,g3,g4,g5,g6,g7,g8,g9],(.tuple [.nilSlice,(i 1)]),nones 14,[]⟩
def e9x4 : Ent := ⟨[(.agg [(w 0),.nilSlice,.nilSlice])],gob ++ [g0,g1,(D []),g2,g3,g4,g5,g6,g7,g8,g9],(.tuple [.nilSlice,(i 0)]),nones 14,[]⟩
def e9x5 : Ent := ⟨[(.agg [(w 0),(S 11 0 2 12 12 12 false 1),(S 12 0 0 3 1 1 false 3)])],gob ++ [g55,g1,(D []),g11,g56,g4,g5,g6,g53,g54,g7,g8,g9],(.tuple [(S 16 0 2 12 3 3 false 4),(i 0)]),nones 16,[(.cells [(w 0),(i 1),(S 17 0 0 1 1 1 false 1),z,(w 4),(i 1),(S 18 0 0 1 1 1 false 1),z,(w 8),(i 1),(S 19 0 0 1 1 1 false 1),z] 0 2 false),(C [(w 4)]),(C [(w 4)]),(C [(w 12)])]⟩
def tbl9 : List Ent := [e9x0, e9x1, e9x2, e9x3, e9x4, e9x5]
theorem ce9x0 : chkE (tabT tr12) (evalF (tabT tr12) 100000) 9 e9x0 = true := by kernel_rfl
theorem ce9x1 : chkE (tabT tr12) (evalF (tabT tr12) 100000) 9 e9x1 = true := by kernel_rfl
theorem ce9x2 : chkE (tabT tr12) (evalF (tabT tr12) 100000) 9 e9x2 = true := by kernel_rfl
theorem ce9x3 : chkE (tabT tr12) (evalF (tabT tr12) 100000) 9 e9x3 = true := by kernel_rfl
theorem ce9x4 : chkE (tabT tr12) (evalF (tabT tr12) 100000) 9 e9x4 = true := by kernel_rfl
theorem ce9x5 : chkE (tabT tr12) (evalF (tabT tr12) 100000) 9 e9x5 = true := by kernel_rfl
theorem all9 : ∀ E, E ∈ tbl9 → chkE (tabT tr12) (evalF (tabT tr12) 100000) 9 E = true := all_cons (p := fun E => chkE (tabT tr12) (evalF (tabT tr12) 100000) 9 E) ce9x0 (all_cons (p := fun E => chkE (tabT tr12) (evalF (tabT tr12) 100000) 9 E) ce9x1 (all_cons (p := fun E => chkE (tabT tr12) (evalF (tabT tr12) 100000) 9 E) ce9x2 (all_cons (p := fun E => chkE (tabT tr12) (evalF (tabT tr12) 100000) 9 E) ce9x3 (all_cons (p := fun E => chkE (tabT tr12) (evalF (tabT tr12) 100000) 9 E) ce9x4 (all_cons (p := fun E => chkE (tabT tr12) (evalF (tabT tr12) 100000) 9 E) ce9x5 (fun _ h => by cases h))))))
noncomputable def tl13 : List (Nat × FnImp) := (9, .hook (memoAH memoPre tbl9)) :: tl12
noncomputable def tr13 : Tree FnImp := tr12.set 9 (.hook (memoAH memoPre tbl9))
theorem tr13_ok : treeOf tl13 = tr13 := by kernel_rfl
theorem law_ev : isYes (callF (tabT tr13) (evalF (tabT tr13) 100000) 4 [] sG) = true := by kernel_rfl
end Go.V
